/-
  Texts of the executors: CxWorks1, CxWorks, HxTab, HxC, HxLib, V4, HxJoin.
-/
import Derived.Test.YtlijpmeeldoofaaCalcShapes8
set_option linter.all false
namespace CX
open Go Go.Proofs

noncomputable def args1 : List V := [gR p0R 0]
theorem ent1 : leS p0 ⟨Try.f26.ntmps, 0, entered args1 0 .e, p0H, p0.nx, []⟩ = true := by kernel_rfl
theorem res1 : resultsX env pz.regs pz.h Try.f26.results.toList (fun l => retV (one l) pz.h pz.nx) = retV (gR pvR 0) pz.h pz.nx := by kernel_rfl
theorem fits1 : Nat.ble (len args1) Try.f26.ntmps = true := by kernel_rfl
noncomputable def env1 : Env := env.and 26 (.known p0H p0.nx args1 (gR pvR 0) pzH pz.nx)
theorem env1_ok : EnvOk env1 Try.prog :=
  EnvOk.and env_ok (known_call env_ok (fun _ => rfl) fP_fn rfl fP_body fits1 (Known.from (leS_ok ent1) run1) (.inr rfl) rfl res1)

noncomputable def args2 : List V := [gR q0R 0]
theorem ent2 : leS q0 ⟨Try.f26.ntmps, 0, entered args2 0 .e, q0H, q0.nx, []⟩ = true := by kernel_rfl
theorem res2 : resultsX env qz.regs qz.h Try.f26.results.toList (fun l => retV (one l) qz.h qz.nx) = retV (gR qvR 0) qz.h qz.nx := by kernel_rfl
theorem fits2 : Nat.ble (len args2) Try.f26.ntmps = true := by kernel_rfl
noncomputable def env2 : Env := env.and 26 (.known q0H q0.nx args2 (gR qvR 0) qzH qz.nx)
theorem env2_ok : EnvOk env2 Try.prog :=
  EnvOk.and env_ok (known_call env_ok (fun _ => rfl) fP_fn rfl fP_body fits2 (Known.from (leS_ok ent2) run2) (.inr rfl) rfl res2)

noncomputable def args3 : List V := [gR r0R 0]
theorem ent3 : leS r0 ⟨Try.f26.ntmps, 0, entered args3 0 .e, r0H, r0.nx, []⟩ = true := by kernel_rfl
theorem res3 : resultsX env rz.regs rz.h Try.f26.results.toList (fun l => retV (one l) rz.h rz.nx) = retV (gR rvR 0) rz.h rz.nx := by kernel_rfl
theorem fits3 : Nat.ble (len args3) Try.f26.ntmps = true := by kernel_rfl
noncomputable def env3 : Env := env.and 26 (.known r0H r0.nx args3 (gR rvR 0) rzH rz.nx)
theorem env3_ok : EnvOk env3 Try.prog :=
  EnvOk.and env_ok (known_call env_ok (fun _ => rfl) fP_fn rfl fP_body fits3 (Known.from (leS_ok ent3) run3) (.inr rfl) rfl res3)
end CX

namespace CX
open Go Go.Proofs

theorem w1 : isS s16 (runL env 1000 none (pcW.take 16) ⟨196, 0, .e, .e, 0, []⟩) = true := by kernel_rfl
theorem w2 : isS s20 (runL env1 1000 none ((pcW.drop 16).take 4) s16) = true := by kernel_rfl
theorem w3 : isS s22 (runL env2 1000 none ((pcW.drop 20).take 2) s20) = true := by kernel_rfl
theorem w4 : isE .ret wZ (runE env3 1000 none (pcW.drop 22) s22) = true := by kernel_rfl
theorem w_res : resultsX env wZ.regs wZ.h Try.f5.results.toList (fun l => retV (one l) wZ.h wZ.nx) = retV (.bool true) wZ.h wZ.nx := by kernel_rfl

theorem cut (n m : Nat) : pcW.drop n = (pcW.drop n).take m ++ pcW.drop (n + m) := by
  rw [← List.drop_drop, List.take_append_drop]

theorem works_known : Known env Try.prog none (fb Try.f5) ⟨196, 0, .e, .e, 0, []⟩ .ret wZ := by
  refine KnownL.code ?_
  rw [show flatC (fb Try.f5) = pcW.take 16 ++ pcW.drop 16 from (List.take_append_drop 16 pcW).symm]
  refine KnownL.chunk env_ok w1 ?_
  refine KnownL.env (E := env1) (E' := env) rfl ?_
  rw [cut 16 4]
  refine KnownL.chunk env1_ok w2 ?_
  refine KnownL.env (E := env2) (E' := env1) rfl ?_
  rw [cut 20 2]
  refine KnownL.chunk env2_ok w3 ?_
  refine KnownL.env (E := env3) (E' := env2) rfl ?_
  exact KnownL.endC env3_ok w4

theorem works_ok (w : World) : Calls Try.prog 5 #[] w fun e w' => e = .returned (.bool true) ∧ Kept w w' :=
  known_closed env_ok (fun _ => rfl) fW_fn rfl fW_body works_known (.inr rfl) rfl w_res w
end CX

namespace HX
open Go Go.Proofs

noncomputable def tyB : BT CX.Ty := (.n (.n (.n (.n (.n (.n (.n (.n .e 1 CX.ty1 .e) 2 CX.ty2 .e) 3 CX.ty3 (.n (.n .e 4 CX.ty4 .e) 5 CX.ty5 .e)) 6 CX.ty6 (.n (.n (.n .e 7 CX.ty7 .e) 8 CX.ty8 .e) 9 CX.ty9 (.n (.n .e 10 CX.ty10 .e) 11 CX.ty11 .e))) 12 CX.ty12 (.n (.n (.n (.n .e 13 CX.ty13 .e) 14 CX.ty14 .e) 15 CX.ty15 (.n (.n .e 16 CX.ty16 .e) 17 CX.ty17 .e)) 18 CX.ty18 (.n (.n (.n .e 19 CX.ty19 .e) 20 CX.ty20 .e) 21 CX.ty21 (.n .e 22 CX.ty22 .e)))) 23 CX.ty23 (.n (.n (.n (.n (.n .e 24 CX.ty24 .e) 25 CX.ty25 .e) 26 CX.ty26 (.n (.n .e 27 CX.ty27 .e) 29 CX.ty29 .e)) 30 CX.ty30 (.n (.n (.n .e 31 CX.ty31 .e) 32 CX.ty32 .e) 33 CX.ty33 (.n .e 35 CX.ty35 .e))) 36 CX.ty36 (.n (.n (.n (.n .e 38 CX.ty38 .e) 39 CX.ty39 .e) 40 CX.ty40 (.n (.n .e 42 CX.ty42 .e) 44 CX.ty44 .e)) 45 CX.ty45 (.n (.n (.n .e 46 CX.ty46 .e) 47 CX.ty47 .e) 48 CX.ty48 (.n .e 49 CX.ty49 .e))))) 50 CX.ty50 (.n (.n (.n (.n (.n (.n .e 51 CX.ty51 .e) 52 CX.ty52 .e) 53 CX.ty53 (.n (.n .e 54 CX.ty54 .e) 55 CX.ty55 .e)) 57 CX.ty57 (.n (.n (.n .e 58 CX.ty58 .e) 59 CX.ty59 .e) 60 CX.ty60 (.n .e 61 CX.ty61 .e))) 62 CX.ty62 (.n (.n (.n (.n .e 63 CX.ty63 .e) 64 CX.ty64 .e) 65 CX.ty65 (.n (.n .e 66 CX.ty66 .e) 67 CX.ty67 .e)) 68 CX.ty68 (.n (.n (.n .e 70 CX.ty70 .e) 71 CX.ty71 .e) 72 CX.ty72 (.n .e 73 CX.ty73 .e)))) 74 CX.ty74 (.n (.n (.n (.n (.n .e 75 CX.ty75 .e) 76 CX.ty76 .e) 77 CX.ty77 (.n (.n .e 78 CX.ty78 .e) 79 CX.ty79 .e)) 80 CX.ty80 (.n (.n (.n .e 81 CX.ty81 .e) 82 CX.ty82 .e) 83 CX.ty83 (.n .e 84 CX.ty84 .e))) 85 CX.ty85 (.n (.n (.n (.n .e 86 CX.ty86 .e) 87 CX.ty87 .e) 88 CX.ty88 (.n (.n .e 89 CX.ty89 .e) 90 CX.ty90 .e)) 91 CX.ty91 (.n (.n (.n .e 92 CX.ty92 .e) 93 CX.ty93 .e) 94 CX.ty94 (.n .e 95 CX.ty95 .e)))))) 96 CX.ty96 (.n (.n (.n (.n (.n (.n (.n .e 97 CX.ty97 .e) 98 CX.ty98 .e) 100 CX.ty100 (.n (.n .e 101 CX.ty101 .e) 102 CX.ty102 .e)) 103 CX.ty103 (.n (.n (.n .e 104 CX.ty104 .e) 105 CX.ty105 .e) 106 CX.ty106 (.n (.n .e 107 CX.ty107 .e) 109 CX.ty109 .e))) 110 CX.ty110 (.n (.n (.n (.n .e 111 CX.ty111 .e) 112 CX.ty112 .e) 113 CX.ty113 (.n (.n .e 114 CX.ty114 .e) 115 CX.ty115 .e)) 116 CX.ty116 (.n (.n (.n .e 117 CX.ty117 .e) 118 CX.ty118 .e) 119 CX.ty119 (.n .e 120 CX.ty120 .e)))) 121 CX.ty121 (.n (.n (.n (.n (.n .e 122 CX.ty122 .e) 123 CX.ty123 .e) 124 CX.ty124 (.n (.n .e 125 CX.ty125 .e) 126 CX.ty126 .e)) 127 CX.ty127 (.n (.n (.n .e 128 CX.ty128 .e) 129 CX.ty129 .e) 130 CX.ty130 (.n .e 131 CX.ty131 .e))) 132 CX.ty132 (.n (.n (.n (.n .e 133 CX.ty133 .e) 134 CX.ty134 .e) 135 CX.ty135 (.n (.n .e 136 CX.ty136 .e) 137 CX.ty137 .e)) 138 CX.ty138 (.n (.n (.n .e 139 CX.ty139 .e) 141 CX.ty141 .e) 142 CX.ty142 (.n .e 143 CX.ty143 .e))))) 144 CX.ty144 (.n (.n (.n (.n (.n (.n .e 146 CX.ty146 .e) 147 CX.ty147 .e) 148 CX.ty148 (.n (.n .e 149 CX.ty149 .e) 150 CX.ty150 .e)) 151 CX.ty151 (.n (.n (.n .e 152 CX.ty152 .e) 153 CX.ty153 .e) 156 CX.ty156 (.n .e 157 CX.ty157 .e))) 158 CX.ty158 (.n (.n (.n (.n .e 159 CX.ty159 .e) 160 CX.ty160 .e) 161 CX.ty161 (.n (.n .e 162 CX.ty162 .e) 163 CX.ty163 .e)) 164 CX.ty164 (.n (.n (.n .e 165 CX.ty165 .e) 166 CX.ty166 .e) 167 CX.ty167 (.n .e 168 CX.ty168 .e)))) 169 CX.ty169 (.n (.n (.n (.n (.n .e 170 CX.ty170 .e) 171 CX.ty171 .e) 172 CX.ty172 (.n (.n .e 174 CX.ty174 .e) 175 CX.ty175 .e)) 176 CX.ty176 (.n (.n (.n .e 177 CX.ty177 .e) 178 CX.ty178 .e) 179 CX.ty179 (.n .e 180 CX.ty180 .e))) 181 CX.ty181 (.n (.n (.n (.n .e 182 CX.ty182 .e) 183 CX.ty183 .e) 184 CX.ty184 (.n (.n .e 185 CX.ty185 .e) 186 CX.ty186 .e)) 187 CX.ty187 (.n (.n (.n .e 188 CX.ty188 .e) 189 CX.ty189 .e) 190 CX.ty190 (.n .e 191 CX.ty191 .e)))))))
def ksB : BT (List Kd) := (.n (.n (.n (.n (.n (.n .e 2 [.int .i64] .e) 3 [.int .i64] (.n .e 4 [.bool] .e)) 5 [.int .u8] (.n (.n .e 6 [.int .u8] .e) 7 [.int .i64, .int .i64, .bool, .int .u8] (.n .e 8 [.int .i64, .int .i64, .bool, .int .u8] .e))) 9 [.str] (.n (.n (.n .e 10 [.str] .e) 11 [.str] (.n .e 12 [.int .u64] .e)) 13 [.str, .int .u64] (.n (.n .e 14 [.str, .int .u64] .e) 21 [.int .i32] .e))) 22 [.sl [.int .u8]] (.n (.n (.n (.n .e 23 [.int .u16] .e) 25 [.sl [.int .i64]] (.n .e 27 [.int .i64] .e)) 31 [.int .i64, .int .i64] (.n (.n .e 32 [.int .i64, .int .i64] .e) 45 [.int .i64, .int .i64, .int .i64] (.n .e 46 [.int .i64, .int .i64, .int .i64] .e))) 47 [.int .i64, .int .i64, .sl [.int .i64]] (.n (.n (.n .e 48 [.int .i64, .int .i64, .sl [.int .i64]] .e) 49 [.int .i64, .int .i64, .sl [.int .i64], .int .i64, .int .i64, .int .i64] (.n .e 50 [.int .i64, .int .i64, .sl [.int .i64], .int .i64, .int .i64, .int .i64] .e)) 51 [.sl [.int .i64, .int .i64, .sl [.int .i64], .int .i64, .int .i64, .int .i64]] (.n (.n .e 52 [.sl [.int .i64, .int .i64, .int .i64, .int .i64, .int .i64]] .e) 53 [.sl [.sl [.int .i64]]] .e)))) 54 [.sl [.int .i64, .int .i64, .int .i64, .int .i64, .int .i64], .sl [.sl [.int .i64]]] (.n (.n (.n (.n (.n .e 55 [.sl [.int .i64, .int .i64, .int .i64, .int .i64, .int .i64], .sl [.sl [.int .i64]]] .e) 58 [.int .i64, .int .i64, .int .i64, .int .i64, .int .i64] (.n .e 59 [.int .i64, .int .i64, .int .i64, .int .i64, .int .i64] .e)) 72 [.sl [.int .i64, .int .i64, .int .i64]] (.n (.n .e 74 [.int .i64, .int .i64, .int .i64] .e) 75 [.int .i64, .int .i64, .int .i64] (.n .e 76 [.int .i64, .int .i64] .e))) 77 [.int .i64, .int .i64] (.n (.n (.n .e 87 [.sl [.sl [.sl [.int .i64, .int .i64, .int .i64]]]] .e) 96 [.sl [.int .i64, .int .i64]] (.n .e 97 [.sl [.int .i64, .int .i64, .sl [.int .i64]]] .e)) 98 [.sl [.sl [.int .i64, .int .i64, .int .i64]]] (.n (.n .e 101 [.sl [.sl [.int .i64, .int .i64, .int .i64]]] .e) 117 [.sl [.int .i64, .int .i64, .int .i64]] .e))) 118 [.int .i64, .int .i64, .int .i64] (.n (.n (.n (.n .e 119 [.int .i64, .int .i64, .int .i64] .e) 130 [.int .i64, .int .i64, .int .i64, .int .i64] (.n .e 131 [.int .i64, .int .i64, .int .i64, .int .i64] .e)) 134 [.int .u64] (.n (.n .e 144 [.int .i64] .e) 151 [.int .u32] (.n .e 153 [.int .u64] .e))) 156 [.int .i64, .int .i64] (.n (.n (.n .e 157 [.int .i64, .int .i64] .e) 164 [.int .u64] (.n .e 183 [.int .u8] .e)) 184 [.int .u8] (.n (.n .e 187 [.int .i32] .e) 188 [.int .i32] .e)))))
end HX

namespace HX
open Go Go.Proofs CX

noncomputable def tyF (t : Nat) : Option CX.Ty := tyB.get t
def ksF (t : Nat) : Option (List Kd) := ksB.get t
noncomputable def fnF (f : Nat) : Option Func := CX.env.fn f
def extF (f : Nat) : Option CX.Ext := match beqN f 5 with
  | true => some (.bool true)
  | false => none
noncomputable def cxE (ro : Addr → Option V) : CX.Env := ⟨tyF, fnF, extF, ro⟩

structure Ctr where
  f : Nat
  sg : Sig
  pre : List (List D) → Prop
  res : List (List D) → Nat → Nat → D

def inlL (l : List (Nat × Func)) (f : Nat) : Option Func := look l f
def sigL (l : List (Nat × Sig)) (f : Nat) : Option Sig := look l f
def sigs (l : List Ctr) : List (Nat × Sig) := l.map fun c => (c.f, c.sg)
def ctrOf : List Ctr → Nat → Option Ctr
  | [], _ => none
  | c :: r, f => if c.f = f then some c else ctrOf r f
def preOf (l : List Ctr) (f : Nat) (ds : List (List D)) : Prop := match ctrOf l f with
  | some c => c.pre ds
  | none => False
def resOf (l : List Ctr) (f : Nat) (ds : List (List D)) : Nat → Nat → D := match ctrOf l f with
  | some c => c.res ds
  | none => fun _ _ => .nil
end HX

namespace HX
open Go Go.Proofs CX

inductive Inls (E : CX.Env) : List (Nat × Func) → Prop
  | nil : Inls E []
  | cons {f : Nat} {fn : Func} {l : List (Nat × Func)} (h : E.fn f = some fn) (h' : E.ext f = none) (r : Inls E l) : Inls E ((f, fn) :: l)
theorem Inls.ok {E : CX.Env} : ∀ {l : List (Nat × Func)}, Inls E l → ∀ f fn, inlL l f = some fn → E.fn f = some fn ∧ E.ext f = none
  | [], _, f, fn, h => by simp [inlL, look] at h
  | (g, gn) :: l, .cons h1 h2 r, f, fn, h => by
    unfold inlL at h
    rw [look_cons] at h
    split at h
    · rename_i e
      simp only [Option.some.injEq] at h
      subst e h
      exact ⟨h1, h2⟩
    · exact r.ok f fn h

def mxI (x y : Int) : Int := if x < y then y else x
theorem mxI_eq (x y : Int) : mxI x y = max x y := by unfold mxI; split <;> omega
theorem dt {p : Prop} [d : Decidable p] (h : decide p = true) : p := of_decide_eq_true h
theorem df {p : Prop} [d : Decidable p] (h : decide p = false) : ¬ p := of_decide_eq_false h
theorem nt {b : Bool} (h : (!b) = true) : b = false := by simpa using h
theorem nf {b : Bool} (h : (!b) = false) : b = true := by simpa using h
end HX

namespace HX
open Go Go.Proofs CX
abbrev v4Z (x : Int) := -9223372036854775808 ≤ x ∧ x ≤ 9223372036854775807
abbrev v4a (fn : Nat → List (List D) → Nat → Nat → D) (a0 : Rows) (a1 : Int) (a2 : Int) := (D.rows (fn 11 [[D.l (D.rows (fn 6 [[D.l a0]] 0 0))], [D.i (D.int (fn 9 [[D.i (Int.tmod a1 8192)], [D.i (Int.tmod a2 1025)]] 0 0)), D.i (D.int (fn 9 [[D.i (Int.tmod a1 8192)], [D.i (Int.tmod a2 1025)]] 0 1))]] 0 0))
abbrev v4b (fn : Nat → List (List D) → Nat → Nat → D) (a1 : Int) (a2 : Int) := (D.int (fn 9 [[D.i (Int.tmod a1 8192)], [D.i (Int.tmod a2 1025)]] 0 1))
abbrev v4c (fn : Nat → List (List D) → Nat → Nat → D) (a1 : Int) (a2 : Int) := (D.int (fn 9 [[D.i (Int.tmod a1 8192)], [D.i (Int.tmod a2 1025)]] 0 0))
abbrev v4d (fn : Nat → List (List D) → Nat → Nat → D) (a0 : Rows) (a1 : Int) (a2 : Int) := (D.int (fn 11 [[D.l (D.rows (fn 6 [[D.l a0]] 0 0))], [D.i (v4c fn a1 a2), D.i (v4b fn a1 a2)]] 1 0))
abbrev v4e (fn : Nat → List (List D) → Nat → Nat → D) (a0 : Rows) (a1 : Int) (a2 : Int) := (D.boo (fn 8 [[D.l (v4a fn a0 a1 a2)], [D.i (v4c fn a1 a2), D.i (v4b fn a1 a2)]] 0 0) = true)
abbrev v4f (fn : Nat → List (List D) → Nat → Nat → D) (a0 : Rows) (a1 : Int) (a2 : Int) := (fn 8 [[D.l (D.rows (fn 6 [[D.l a0]] 0 0))], [D.i (v4c fn a1 a2), D.i (v4b fn a1 a2)]] 0 0)
abbrev v4g (fn : Nat → List (List D) → Nat → Nat → D) (a0 : Rows) := ((D.rows (fn 6 [[D.l a0]] 0 0)))
abbrev v4h (fn : Nat → List (List D) → Nat → Nat → D) (a0 : Rows) (a1 : Int) (a2 : Int) := (D.boo (fn 12 [[D.l (v4a fn a0 a1 a2)], [D.l (D.rows (fn 6 [[D.l a0]] 0 0))]] 0 0) = true)
abbrev v4i (fn : Nat → List (List D) → Nat → Nat → D) (a0 : Rows) (a1 : Int) (a2 : Int) (j : Int) := (¬ (D.int (gt (v4a fn a0 a1 a2) j.toNat 0)) < (D.int (gt (D.rows (fn 6 [[D.l a0]] 0 0)) j.toNat 0)))
abbrev v4k (fn : Nat → List (List D) → Nat → Nat → D) (a1 : Int) (a2 : Int) (z : Rows) (i : Int) (k : Int) := (((v4c fn a1 a2) + ((v4b fn a1 a2) * (((D.int (gt z i.toNat 0)) - (D.int (gt z k.toNat 0))) + 1))) < (1024 * ((i - k) + 1)))
abbrev v4m (fn : Nat → List (List D) → Nat → Nat → D) (a0 : Rows) (a1 : Int) (a2 : Int) := (D.boo (v4f fn a0 a1 a2) = false)
abbrev v4n (fn : Nat → List (List D) → Nat → Nat → D) (a0 : Rows) (a1 : Int) (a2 : Int) := (D.boo (v4f fn a0 a1 a2) = true)
abbrev v4o (fn : Nat → List (List D) → Nat → Nat → D) (o : Rows) (a1 : Int) (a2 : Int) := (D.boo (fn 8 [[D.l o], [D.i (v4c fn a1 a2), D.i (v4b fn a1 a2)]] 0 0) = true)
abbrev v4q (fn : Nat → List (List D) → Nat → Nat → D) (a0 : Rows) (a1 : Int) (a2 : Int) (j : Int) := (¬ (D.int (gt (v4a fn a0 a1 a2) j.toNat 0)) < (D.int (gt (v4a fn a0 a1 a2) (Int.toNat (j - 1)) 0)))
abbrev v4s (z : Rows) (i : Int) (k : Int) := ((D.int (gt z i.toNat 0)) - (D.int (gt z k.toNat 0)))
abbrev v4A (fn : Nat → List (List D) → Nat → Nat → D) (a0 : Rows) (a1 a2 : Int) (a3 : Rows) (p : Prop) : Prop := (¬ 30 < (a0.length : Int)) → (¬ 30 < (a3.length : Int)) → ((v4d fn a0 a1 a2) = 0) → (((((v4a fn a0 a1 a2)).length : Int)) = ((v4g fn a0).length : Int)) → (v4e fn a0 a1 a2) → (v4n fn a0 a1 a2) → (v4h fn a0 a1 a2) → p
abbrev v4B (fn : Nat → List (List D) → Nat → Nat → D) (a0 : Rows) (a1 a2 : Int) (a3 : Rows) (p : Prop) : Prop := (¬ 30 < (a0.length : Int)) → (¬ 30 < (a3.length : Int)) → ((v4d fn a0 a1 a2) = 0) → (((((v4a fn a0 a1 a2)).length : Int)) = ((v4g fn a0).length : Int)) → (v4e fn a0 a1 a2) → (v4m fn a0 a1 a2) → p
structure V4 (pre : Nat → List (List D) → Prop) (fn : Nat → List (List D) → Nat → Nat → D) (a0 : Rows) (a1 : Int) (a2 : Int) (a3 : Rows) (R : Nat → Nat → D) (I0 : Rows → Int → Prop) (m0 : Rows → Int → Nat) (I1 : Rows → Int → Int → Prop) (m1 : Rows → Int → Int → Nat) (I2 : Rows → Int → Int → Int → Prop) (m2 : Rows → Int → Int → Int → Nat) (I3 : Rows → Int → Int → Int → Int → Rows → Prop) (m3 : Rows → Int → Int → Int → Int → Rows → Nat) (I4 : Rows → Int → Bool → Int → Prop) (m4 : Rows → Int → Bool → Int → Nat) (I5 : Rows → Int → Prop) (m5 : Rows → Int → Nat) (I6 : Rows → Int → Int → Prop) (m6 : Rows → Int → Int → Nat) (I7 : Rows → Int → Int → Int → Prop) (m7 : Rows → Int → Int → Int → Nat) (I8 : Rows → Int → Int → Int → Int → Rows → Prop) (m8 : Rows → Int → Int → Int → Int → Rows → Nat) (I9 : Rows → Int → Bool → Int → Prop) (m9 : Rows → Int → Bool → Int → Nat) : Prop where
  g0 : (30 < (a0.length : Int)) → pre 5 []
  g1 : (30 < (a0.length : Int)) → R 0 0 = D.b (D.boo (fn 5 [] 0 0))
  g2 : (¬ 30 < (a0.length : Int)) → (30 < (a3.length : Int)) → pre 5 []
  g3 : (¬ 30 < (a0.length : Int)) → (30 < (a3.length : Int)) → R 0 0 = D.b (D.boo (fn 5 [] 0 0))
  g4 : (¬ 30 < (a0.length : Int)) → (¬ 30 < (a3.length : Int)) → pre 6 [[D.l a0]]
  g5 : (¬ 30 < (a0.length : Int)) → (¬ 30 < (a3.length : Int)) → v4Z a1
  g6 : (¬ 30 < (a0.length : Int)) → (¬ 30 < (a3.length : Int)) → (8192 : Int) ≠ 0
  g7 : (¬ 30 < (a0.length : Int)) → (¬ 30 < (a3.length : Int)) → v4Z a2
  g8 : (¬ 30 < (a0.length : Int)) → (¬ 30 < (a3.length : Int)) → (1025 : Int) ≠ 0
  g9 : (¬ 30 < (a0.length : Int)) → (¬ 30 < (a3.length : Int)) → pre 9 [[D.i (Int.tmod a1 8192)], [D.i (Int.tmod a2 1025)]]
  g10 : (¬ 30 < (a0.length : Int)) → (¬ 30 < (a3.length : Int)) → pre 11 [[D.l (D.rows (fn 6 [[D.l a0]] 0 0))], [D.i (v4c fn a1 a2), D.i (v4b fn a1 a2)]]
  g11 : (¬ 30 < (a0.length : Int)) → (¬ 30 < (a3.length : Int)) → (¬ (v4d fn a0 a1 a2) = 0) → ((v4d fn a0 a1 a2) = 21) → (0 < ((v4g fn a0).length : Int)) → v4Z ((v4c fn a1 a2) + (v4b fn a1 a2))
  g12 : (¬ 30 < (a0.length : Int)) → (¬ 30 < (a3.length : Int)) → (¬ (v4d fn a0 a1 a2) = 0) → ((v4d fn a0 a1 a2) = 21) → (0 < ((v4g fn a0).length : Int)) → (((v4c fn a1 a2) + (v4b fn a1 a2)) < 1024) → pre 5 []
  g13 : (¬ 30 < (a0.length : Int)) → (¬ 30 < (a3.length : Int)) → (¬ (v4d fn a0 a1 a2) = 0) → ((v4d fn a0 a1 a2) = 21) → (0 < ((v4g fn a0).length : Int)) → (((v4c fn a1 a2) + (v4b fn a1 a2)) < 1024) → R 0 0 = D.b (D.boo (fn 5 [] 0 0))
  g14 : (¬ 30 < (a0.length : Int)) → (¬ 30 < (a3.length : Int)) → (¬ (v4d fn a0 a1 a2) = 0) → ((v4d fn a0 a1 a2) = 21) → (0 < ((v4g fn a0).length : Int)) → (¬ ((v4c fn a1 a2) + (v4b fn a1 a2)) < 1024) → ((v4b fn a1 a2) = 0) → v4Z (1024 * ((v4g fn a0).length : Int))
  g15 : (¬ 30 < (a0.length : Int)) → (¬ 30 < (a3.length : Int)) → (¬ (v4d fn a0 a1 a2) = 0) → ((v4d fn a0 a1 a2) = 21) → (0 < ((v4g fn a0).length : Int)) → (¬ ((v4c fn a1 a2) + (v4b fn a1 a2)) < 1024) → ((v4b fn a1 a2) = 0) → ((v4c fn a1 a2) < (1024 * ((v4g fn a0).length : Int))) → pre 5 []
  g16 : (¬ 30 < (a0.length : Int)) → (¬ 30 < (a3.length : Int)) → (¬ (v4d fn a0 a1 a2) = 0) → ((v4d fn a0 a1 a2) = 21) → (0 < ((v4g fn a0).length : Int)) → (¬ ((v4c fn a1 a2) + (v4b fn a1 a2)) < 1024) → ((v4b fn a1 a2) = 0) → ((v4c fn a1 a2) < (1024 * ((v4g fn a0).length : Int))) → R 0 0 = D.b (D.boo (fn 5 [] 0 0))
  g17 : (¬ 30 < (a0.length : Int)) → (¬ 30 < (a3.length : Int)) → (¬ (v4d fn a0 a1 a2) = 0) → ((v4d fn a0 a1 a2) = 21) → (0 < ((v4g fn a0).length : Int)) → (¬ ((v4c fn a1 a2) + (v4b fn a1 a2)) < 1024) → ((v4b fn a1 a2) = 0) → (¬ (v4c fn a1 a2) < (1024 * ((v4g fn a0).length : Int))) → R 0 0 = D.b false
  g18 : (¬ 30 < (a0.length : Int)) → (¬ 30 < (a3.length : Int)) → (¬ (v4d fn a0 a1 a2) = 0) → ((v4d fn a0 a1 a2) = 21) → (0 < ((v4g fn a0).length : Int)) → (¬ ((v4c fn a1 a2) + (v4b fn a1 a2)) < 1024) → (¬ (v4b fn a1 a2) = 0) → R 0 0 = D.b false
  g19 : (¬ 30 < (a0.length : Int)) → (¬ 30 < (a3.length : Int)) → (¬ (v4d fn a0 a1 a2) = 0) → ((v4d fn a0 a1 a2) = 21) → (¬ 0 < ((v4g fn a0).length : Int)) → R 0 0 = D.b false
  g20 : (¬ 30 < (a0.length : Int)) → (¬ 30 < (a3.length : Int)) → (¬ (v4d fn a0 a1 a2) = 0) → (¬ (v4d fn a0 a1 a2) = 21) → R 0 0 = D.b false
  g21 : (¬ 30 < (a0.length : Int)) → (¬ 30 < (a3.length : Int)) → ((v4d fn a0 a1 a2) = 0) → (¬ ((((v4a fn a0 a1 a2)).length : Int)) = ((v4g fn a0).length : Int)) → R 0 0 = D.b false
  g22 : (¬ 30 < (a0.length : Int)) → (¬ 30 < (a3.length : Int)) → ((v4d fn a0 a1 a2) = 0) → (((((v4a fn a0 a1 a2)).length : Int)) = ((v4g fn a0).length : Int)) → pre 8 [[D.l (v4a fn a0 a1 a2)], [D.i (v4c fn a1 a2), D.i (v4b fn a1 a2)]]
  g23 : (¬ 30 < (a0.length : Int)) → (¬ 30 < (a3.length : Int)) → ((v4d fn a0 a1 a2) = 0) → (((((v4a fn a0 a1 a2)).length : Int)) = ((v4g fn a0).length : Int)) → (D.boo (fn 8 [[D.l (v4a fn a0 a1 a2)], [D.i (v4c fn a1 a2), D.i (v4b fn a1 a2)]] 0 0) = false) → R 0 0 = D.b false
  g24 : (¬ 30 < (a0.length : Int)) → (¬ 30 < (a3.length : Int)) → ((v4d fn a0 a1 a2) = 0) → (((((v4a fn a0 a1 a2)).length : Int)) = ((v4g fn a0).length : Int)) → (v4e fn a0 a1 a2) → pre 8 [[D.l (D.rows (fn 6 [[D.l a0]] 0 0))], [D.i (v4c fn a1 a2), D.i (v4b fn a1 a2)]]
  g25 : (¬ 30 < (a0.length : Int)) → (¬ 30 < (a3.length : Int)) → ((v4d fn a0 a1 a2) = 0) → (((((v4a fn a0 a1 a2)).length : Int)) = ((v4g fn a0).length : Int)) → (v4e fn a0 a1 a2) → (v4n fn a0 a1 a2) → pre 12 [[D.l (v4a fn a0 a1 a2)], [D.l (D.rows (fn 6 [[D.l a0]] 0 0))]]
  g26 : (¬ 30 < (a0.length : Int)) → (¬ 30 < (a3.length : Int)) → ((v4d fn a0 a1 a2) = 0) → (((((v4a fn a0 a1 a2)).length : Int)) = ((v4g fn a0).length : Int)) → (v4e fn a0 a1 a2) → (v4n fn a0 a1 a2) → (D.boo (fn 12 [[D.l (v4a fn a0 a1 a2)], [D.l (D.rows (fn 6 [[D.l a0]] 0 0))]] 0 0) = false) → R 0 0 = D.b false
  i0 : v4A fn a0 a1 a2 a3 (I0 [] 0)
  g28 : ∀ o i, I0 o i → v4A fn a0 a1 a2 a3 ((i < ((v4g fn a0).length : Int)) → 0 ≤ i)
  g29 : ∀ o i, I0 o i → v4A fn a0 a1 a2 a3 ((i < ((v4g fn a0).length : Int)) → i < ((v4g fn a0).length : Int))
  g30 : ∀ o i, I0 o i → v4A fn a0 a1 a2 a3 ((i < ((v4g fn a0).length : Int)) → (((Int.toNat i : Nat) : Int)) < ((v4g fn a0).length : Int))
  g32 : ∀ o i, I0 o i → v4A fn a0 a1 a2 a3 ((i < ((v4g fn a0).length : Int)) → (0 < (a3.length : Int)) → (a3.length : Int) ≠ 0)
  g33 : ∀ o i, I0 o i → v4A fn a0 a1 a2 a3 ((i < ((v4g fn a0).length : Int)) → (0 < (a3.length : Int)) → 0 ≤ (Int.tmod i (a3.length : Int)))
  g34 : ∀ o i, I0 o i → v4A fn a0 a1 a2 a3 ((i < ((v4g fn a0).length : Int)) → (0 < (a3.length : Int)) → (Int.tmod i (a3.length : Int)) < (a3.length : Int))
  g35 : ∀ o i, I0 o i → v4A fn a0 a1 a2 a3 ((i < ((v4g fn a0).length : Int)) → (0 < (a3.length : Int)) → (((Int.toNat (Int.tmod i (a3.length : Int)) : Nat) : Int)) < (a3.length : Int))
  g36 : ∀ o i, I0 o i → v4A fn a0 a1 a2 a3 ((i < ((v4g fn a0).length : Int)) → (0 < (a3.length : Int)) → v4Z (D.int (gt a3 (Int.toNat (Int.tmod i (a3.length : Int))) 0)))
  g37 : ∀ o i, I0 o i → v4A fn a0 a1 a2 a3 ((i < ((v4g fn a0).length : Int)) → (0 < (a3.length : Int)) → (9 : Int) ≠ 0)
  g38 : ∀ o i, I0 o i → v4A fn a0 a1 a2 a3 ((i < ((v4g fn a0).length : Int)) → (0 < (a3.length : Int)) → v4Z ((D.int (gt (D.rows (fn 6 [[D.l a0]] 0 0)) i.toNat 0)) + (Int.tmod (D.int (gt a3 (Int.toNat (Int.tmod i (a3.length : Int))) 0)) 9)))
  n39 : ∀ o i, I0 o i → v4A fn a0 a1 a2 a3 ((i < ((v4g fn a0).length : Int)) → (0 < (a3.length : Int)) → I1 o i ((D.int (gt (D.rows (fn 6 [[D.l a0]] 0 0)) i.toNat 0)) + (Int.tmod (D.int (gt a3 (Int.toNat (Int.tmod i (a3.length : Int))) 0)) 9)))
  n40 : ∀ o i, I0 o i → v4A fn a0 a1 a2 a3 ((i < ((v4g fn a0).length : Int)) → (¬ 0 < (a3.length : Int)) → I1 o i (D.int (gt (D.rows (fn 6 [[D.l a0]] 0 0)) i.toNat 0)))
  g42 : ∀ o i, I0 o i → ∀ x, I1 o i x → v4A fn a0 a1 a2 a3 ((i < ((v4g fn a0).length : Int)) → (0 < i) → v4Z (i - 1))
  g43 : ∀ o i, I0 o i → ∀ x, I1 o i x → v4A fn a0 a1 a2 a3 ((i < ((v4g fn a0).length : Int)) → (0 < i) → 0 ≤ (i - 1))
  g44 : ∀ o i, I0 o i → ∀ x, I1 o i x → v4A fn a0 a1 a2 a3 ((i < ((v4g fn a0).length : Int)) → (0 < i) → (i - 1) < (o.length : Int))
  g45 : ∀ o i, I0 o i → ∀ x, I1 o i x → v4A fn a0 a1 a2 a3 ((i < ((v4g fn a0).length : Int)) → (0 < i) → (((Int.toNat (i - 1) : Nat) : Int)) < (o.length : Int))
  n46 : ∀ o i, I0 o i → ∀ x, I1 o i x → v4A fn a0 a1 a2 a3 ((i < ((v4g fn a0).length : Int)) → (0 < i) → I2 o i x (mxI x (D.int (gt o (Int.toNat (i - 1)) 0))))
  n47 : ∀ o i, I0 o i → ∀ x, I1 o i x → v4A fn a0 a1 a2 a3 ((i < ((v4g fn a0).length : Int)) → (¬ 0 < i) → I2 o i x x)
  g48 : ∀ o i, I0 o i → ∀ x, I1 o i x → ∀ y, I2 o i x y → v4A fn a0 a1 a2 a3 ((i < ((v4g fn a0).length : Int)) → (o.length + (List.length ([[D.i y]] : Rows))) * 8 ≤ 4294967296 ∧ (o.length + (List.length ([[D.i y]] : Rows))) ≤ 4294967296)
  i3 : ∀ o i, I0 o i → ∀ x, I1 o i x → ∀ y, I2 o i x y → v4A fn a0 a1 a2 a3 ((i < ((v4g fn a0).length : Int)) → I3 o i x y 0 (o ++ [[D.i y]]))
  g50 : ∀ o i, I0 o i → ∀ x, I1 o i x → ∀ y, I2 o i x y → ∀ k z, I3 o i x y k z → v4A fn a0 a1 a2 a3 ((i < ((v4g fn a0).length : Int)) → (k < i) → (0 < (v4b fn a1 a2)) → v4Z (i - k))
  g51 : ∀ o i, I0 o i → ∀ x, I1 o i x → ∀ y, I2 o i x y → ∀ k z, I3 o i x y k z → v4A fn a0 a1 a2 a3 ((i < ((v4g fn a0).length : Int)) → (k < i) → (0 < (v4b fn a1 a2)) → v4Z ((i - k) + 1))
  g52 : ∀ o i, I0 o i → ∀ x, I1 o i x → ∀ y, I2 o i x y → ∀ k z, I3 o i x y k z → v4A fn a0 a1 a2 a3 ((i < ((v4g fn a0).length : Int)) → (k < i) → (0 < (v4b fn a1 a2)) → v4Z (1024 * ((i - k) + 1)))
  g53 : ∀ o i, I0 o i → ∀ x, I1 o i x → ∀ y, I2 o i x y → ∀ k z, I3 o i x y k z → v4A fn a0 a1 a2 a3 ((i < ((v4g fn a0).length : Int)) → (k < i) → (0 < (v4b fn a1 a2)) → 0 ≤ i)
  g54 : ∀ o i, I0 o i → ∀ x, I1 o i x → ∀ y, I2 o i x y → ∀ k z, I3 o i x y k z → v4A fn a0 a1 a2 a3 ((i < ((v4g fn a0).length : Int)) → (k < i) → (0 < (v4b fn a1 a2)) → i < (z.length : Int))
  g55 : ∀ o i, I0 o i → ∀ x, I1 o i x → ∀ y, I2 o i x y → ∀ k z, I3 o i x y k z → v4A fn a0 a1 a2 a3 ((i < ((v4g fn a0).length : Int)) → (k < i) → (0 < (v4b fn a1 a2)) → (((Int.toNat i : Nat) : Int)) < (z.length : Int))
  g57 : ∀ o i, I0 o i → ∀ x, I1 o i x → ∀ y, I2 o i x y → ∀ k z, I3 o i x y k z → v4A fn a0 a1 a2 a3 ((i < ((v4g fn a0).length : Int)) → (k < i) → (0 < (v4b fn a1 a2)) → 0 ≤ k)
  g58 : ∀ o i, I0 o i → ∀ x, I1 o i x → ∀ y, I2 o i x y → ∀ k z, I3 o i x y k z → v4A fn a0 a1 a2 a3 ((i < ((v4g fn a0).length : Int)) → (k < i) → (0 < (v4b fn a1 a2)) → k < (z.length : Int))
  g59 : ∀ o i, I0 o i → ∀ x, I1 o i x → ∀ y, I2 o i x y → ∀ k z, I3 o i x y k z → v4A fn a0 a1 a2 a3 ((i < ((v4g fn a0).length : Int)) → (k < i) → (0 < (v4b fn a1 a2)) → (((Int.toNat k : Nat) : Int)) < (z.length : Int))
  g61 : ∀ o i, I0 o i → ∀ x, I1 o i x → ∀ y, I2 o i x y → ∀ k z, I3 o i x y k z → v4A fn a0 a1 a2 a3 ((i < ((v4g fn a0).length : Int)) → (k < i) → (0 < (v4b fn a1 a2)) → v4Z (v4s z i k))
  g62 : ∀ o i, I0 o i → ∀ x, I1 o i x → ∀ y, I2 o i x y → ∀ k z, I3 o i x y k z → v4A fn a0 a1 a2 a3 ((i < ((v4g fn a0).length : Int)) → (k < i) → (0 < (v4b fn a1 a2)) → v4Z ((v4s z i k) + 1))
  g63 : ∀ o i, I0 o i → ∀ x, I1 o i x → ∀ y, I2 o i x y → ∀ k z, I3 o i x y k z → v4A fn a0 a1 a2 a3 ((i < ((v4g fn a0).length : Int)) → (k < i) → (0 < (v4b fn a1 a2)) → v4Z ((v4b fn a1 a2) * ((v4s z i k) + 1)))
  g64 : ∀ o i, I0 o i → ∀ x, I1 o i x → ∀ y, I2 o i x y → ∀ k z, I3 o i x y k z → v4A fn a0 a1 a2 a3 ((i < ((v4g fn a0).length : Int)) → (k < i) → (0 < (v4b fn a1 a2)) → v4Z ((v4c fn a1 a2) + ((v4b fn a1 a2) * ((v4s z i k) + 1))))
  g65 : ∀ o i, I0 o i → ∀ x, I1 o i x → ∀ y, I2 o i x y → ∀ k z, I3 o i x y k z → v4A fn a0 a1 a2 a3 ((i < ((v4g fn a0).length : Int)) → (k < i) → (0 < (v4b fn a1 a2)) → (v4k fn a1 a2 z i k) → 0 ≤ k)
  g66 : ∀ o i, I0 o i → ∀ x, I1 o i x → ∀ y, I2 o i x y → ∀ k z, I3 o i x y k z → v4A fn a0 a1 a2 a3 ((i < ((v4g fn a0).length : Int)) → (k < i) → (0 < (v4b fn a1 a2)) → (v4k fn a1 a2 z i k) → k < (z.length : Int))
  g67 : ∀ o i, I0 o i → ∀ x, I1 o i x → ∀ y, I2 o i x y → ∀ k z, I3 o i x y k z → v4A fn a0 a1 a2 a3 ((i < ((v4g fn a0).length : Int)) → (k < i) → (0 < (v4b fn a1 a2)) → (v4k fn a1 a2 z i k) → (((Int.toNat k : Nat) : Int)) < (z.length : Int))
  g69 : ∀ o i, I0 o i → ∀ x, I1 o i x → ∀ y, I2 o i x y → ∀ k z, I3 o i x y k z → v4A fn a0 a1 a2 a3 ((i < ((v4g fn a0).length : Int)) → (k < i) → (0 < (v4b fn a1 a2)) → (v4k fn a1 a2 z i k) → v4Z ((D.int (gt z k.toNat 0)) - 1))
  g70 : ∀ o i, I0 o i → ∀ x, I1 o i x → ∀ y, I2 o i x y → ∀ k z, I3 o i x y k z → v4A fn a0 a1 a2 a3 ((i < ((v4g fn a0).length : Int)) → (k < i) → (0 < (v4b fn a1 a2)) → (v4k fn a1 a2 z i k) → v4Z (i - k))
  g71 : ∀ o i, I0 o i → ∀ x, I1 o i x → ∀ y, I2 o i x y → ∀ k z, I3 o i x y k z → v4A fn a0 a1 a2 a3 ((i < ((v4g fn a0).length : Int)) → (k < i) → (0 < (v4b fn a1 a2)) → (v4k fn a1 a2 z i k) → v4Z ((i - k) + 1))
  g72 : ∀ o i, I0 o i → ∀ x, I1 o i x → ∀ y, I2 o i x y → ∀ k z, I3 o i x y k z → v4A fn a0 a1 a2 a3 ((i < ((v4g fn a0).length : Int)) → (k < i) → (0 < (v4b fn a1 a2)) → (v4k fn a1 a2 z i k) → v4Z (1024 * ((i - k) + 1)))
  g73 : ∀ o i, I0 o i → ∀ x, I1 o i x → ∀ y, I2 o i x y → ∀ k z, I3 o i x y k z → v4A fn a0 a1 a2 a3 ((i < ((v4g fn a0).length : Int)) → (k < i) → (0 < (v4b fn a1 a2)) → (v4k fn a1 a2 z i k) → v4Z ((1024 * ((i - k) + 1)) - (v4c fn a1 a2)))
  g74 : ∀ o i, I0 o i → ∀ x, I1 o i x → ∀ y, I2 o i x y → ∀ k z, I3 o i x y k z → v4A fn a0 a1 a2 a3 ((i < ((v4g fn a0).length : Int)) → (k < i) → (0 < (v4b fn a1 a2)) → (v4k fn a1 a2 z i k) → v4Z (((1024 * ((i - k) + 1)) - (v4c fn a1 a2)) + (v4b fn a1 a2)))
  g75 : ∀ o i, I0 o i → ∀ x, I1 o i x → ∀ y, I2 o i x y → ∀ k z, I3 o i x y k z → v4A fn a0 a1 a2 a3 ((i < ((v4g fn a0).length : Int)) → (k < i) → (0 < (v4b fn a1 a2)) → (v4k fn a1 a2 z i k) → v4Z ((((1024 * ((i - k) + 1)) - (v4c fn a1 a2)) + (v4b fn a1 a2)) - 1))
  g76 : ∀ o i, I0 o i → ∀ x, I1 o i x → ∀ y, I2 o i x y → ∀ k z, I3 o i x y k z → v4A fn a0 a1 a2 a3 ((i < ((v4g fn a0).length : Int)) → (k < i) → (0 < (v4b fn a1 a2)) → (v4k fn a1 a2 z i k) → (v4b fn a1 a2) ≠ 0)
  g77 : ∀ o i, I0 o i → ∀ x, I1 o i x → ∀ y, I2 o i x y → ∀ k z, I3 o i x y k z → v4A fn a0 a1 a2 a3 ((i < ((v4g fn a0).length : Int)) → (k < i) → (0 < (v4b fn a1 a2)) → (v4k fn a1 a2 z i k) → v4Z (Int.tdiv ((((1024 * ((i - k) + 1)) - (v4c fn a1 a2)) + (v4b fn a1 a2)) - 1) (v4b fn a1 a2)))
  g78 : ∀ o i, I0 o i → ∀ x, I1 o i x → ∀ y, I2 o i x y → ∀ k z, I3 o i x y k z → v4A fn a0 a1 a2 a3 ((i < ((v4g fn a0).length : Int)) → (k < i) → (0 < (v4b fn a1 a2)) → (v4k fn a1 a2 z i k) → v4Z (((D.int (gt z k.toNat 0)) - 1) + (Int.tdiv ((((1024 * ((i - k) + 1)) - (v4c fn a1 a2)) + (v4b fn a1 a2)) - 1) (v4b fn a1 a2))))
  g79 : ∀ o i, I0 o i → ∀ x, I1 o i x → ∀ y, I2 o i x y → ∀ k z, I3 o i x y k z → v4A fn a0 a1 a2 a3 ((i < ((v4g fn a0).length : Int)) → (k < i) → (0 < (v4b fn a1 a2)) → (v4k fn a1 a2 z i k) → 0 ≤ i)
  g80 : ∀ o i, I0 o i → ∀ x, I1 o i x → ∀ y, I2 o i x y → ∀ k z, I3 o i x y k z → v4A fn a0 a1 a2 a3 ((i < ((v4g fn a0).length : Int)) → (k < i) → (0 < (v4b fn a1 a2)) → (v4k fn a1 a2 z i k) → i < (z.length : Int))
  g81 : ∀ o i, I0 o i → ∀ x, I1 o i x → ∀ y, I2 o i x y → ∀ k z, I3 o i x y k z → v4A fn a0 a1 a2 a3 ((i < ((v4g fn a0).length : Int)) → (k < i) → (0 < (v4b fn a1 a2)) → (v4k fn a1 a2 z i k) → (((Int.toNat i : Nat) : Int)) < (z.length : Int))
  g82 : ∀ o i, I0 o i → ∀ x, I1 o i x → ∀ y, I2 o i x y → ∀ k z, I3 o i x y k z → v4A fn a0 a1 a2 a3 ((i < ((v4g fn a0).length : Int)) → (k < i) → (0 < (v4b fn a1 a2)) → (v4k fn a1 a2 z i k) → v4Z (k + 1))
  n83 : ∀ o i, I0 o i → ∀ x, I1 o i x → ∀ y, I2 o i x y → ∀ k z, I3 o i x y k z → v4A fn a0 a1 a2 a3 ((i < ((v4g fn a0).length : Int)) → (k < i) → (0 < (v4b fn a1 a2)) → (v4k fn a1 a2 z i k) → I3 o i x y (k + 1) (List.set z i.toNat [D.i (((D.int (gt z k.toNat 0)) - 1) + (Int.tdiv ((((1024 * ((i - k) + 1)) - (v4c fn a1 a2)) + (v4b fn a1 a2)) - 1) (v4b fn a1 a2)))]) ∧ m3 o i x y (k + 1) (List.set z i.toNat [D.i (((D.int (gt z k.toNat 0)) - 1) + (Int.tdiv ((((1024 * ((i - k) + 1)) - (v4c fn a1 a2)) + (v4b fn a1 a2)) - 1) (v4b fn a1 a2)))]) < m3 o i x y k z)
  g84 : ∀ o i, I0 o i → ∀ x, I1 o i x → ∀ y, I2 o i x y → ∀ k z, I3 o i x y k z → v4A fn a0 a1 a2 a3 ((i < ((v4g fn a0).length : Int)) → (k < i) → (0 < (v4b fn a1 a2)) → (¬ ((v4c fn a1 a2) + ((v4b fn a1 a2) * ((v4s z i k) + 1))) < (1024 * ((i - k) + 1))) → v4Z (k + 1))
  n85 : ∀ o i, I0 o i → ∀ x, I1 o i x → ∀ y, I2 o i x y → ∀ k z, I3 o i x y k z → v4A fn a0 a1 a2 a3 ((i < ((v4g fn a0).length : Int)) → (k < i) → (0 < (v4b fn a1 a2)) → (¬ ((v4c fn a1 a2) + ((v4b fn a1 a2) * ((v4s z i k) + 1))) < (1024 * ((i - k) + 1))) → I3 o i x y (k + 1) z ∧ m3 o i x y (k + 1) z < m3 o i x y k z)
  g86 : ∀ o i, I0 o i → ∀ x, I1 o i x → ∀ y, I2 o i x y → ∀ k z, I3 o i x y k z → v4A fn a0 a1 a2 a3 ((i < ((v4g fn a0).length : Int)) → (k < i) → (¬ 0 < (v4b fn a1 a2)) → v4Z (k + 1))
  n87 : ∀ o i, I0 o i → ∀ x, I1 o i x → ∀ y, I2 o i x y → ∀ k z, I3 o i x y k z → v4A fn a0 a1 a2 a3 ((i < ((v4g fn a0).length : Int)) → (k < i) → (¬ 0 < (v4b fn a1 a2)) → I3 o i x y (k + 1) z ∧ m3 o i x y (k + 1) z < m3 o i x y k z)
  g88 : ∀ o i, I0 o i → ∀ x, I1 o i x → ∀ y, I2 o i x y → ∀ k z, I3 o i x y k z → v4A fn a0 a1 a2 a3 ((i < ((v4g fn a0).length : Int)) → (¬ k < i) → v4Z (i + 1))
  n89 : ∀ o i, I0 o i → ∀ x, I1 o i x → ∀ y, I2 o i x y → ∀ k z, I3 o i x y k z → v4A fn a0 a1 a2 a3 ((i < ((v4g fn a0).length : Int)) → (¬ k < i) → I0 z (i + 1) ∧ m0 z (i + 1) < m0 o i)
  i4 : ∀ o i, I0 o i → v4A fn a0 a1 a2 a3 ((¬ i < ((v4g fn a0).length : Int)) → I4 o i false 0)
  g91 : ∀ o i, I0 o i → ∀ u j, I4 o i u j → v4A fn a0 a1 a2 a3 ((¬ i < ((v4g fn a0).length : Int)) → (j < ((((v4a fn a0 a1 a2)).length : Int))) → 0 ≤ j)
  g92 : ∀ o i, I0 o i → ∀ u j, I4 o i u j → v4A fn a0 a1 a2 a3 ((¬ i < ((v4g fn a0).length : Int)) → (j < ((((v4a fn a0 a1 a2)).length : Int))) → j < ((((v4a fn a0 a1 a2)).length : Int)))
  g93 : ∀ o i, I0 o i → ∀ u j, I4 o i u j → v4A fn a0 a1 a2 a3 ((¬ i < ((v4g fn a0).length : Int)) → (j < ((((v4a fn a0 a1 a2)).length : Int))) → (((Int.toNat j : Nat) : Int)) < ((((v4a fn a0 a1 a2)).length : Int)))
  g95 : ∀ o i, I0 o i → ∀ u j, I4 o i u j → v4A fn a0 a1 a2 a3 ((¬ i < ((v4g fn a0).length : Int)) → (j < ((((v4a fn a0 a1 a2)).length : Int))) → j < ((v4g fn a0).length : Int))
  g96 : ∀ o i, I0 o i → ∀ u j, I4 o i u j → v4A fn a0 a1 a2 a3 ((¬ i < ((v4g fn a0).length : Int)) → (j < ((((v4a fn a0 a1 a2)).length : Int))) → (((Int.toNat j : Nat) : Int)) < ((v4g fn a0).length : Int))
  g97 : ∀ o i, I0 o i → ∀ u j, I4 o i u j → v4A fn a0 a1 a2 a3 ((¬ i < ((v4g fn a0).length : Int)) → (j < ((((v4a fn a0 a1 a2)).length : Int))) → ((D.int (gt (v4a fn a0 a1 a2) j.toNat 0)) < (D.int (gt (D.rows (fn 6 [[D.l a0]] 0 0)) j.toNat 0))) → R 0 0 = D.b false)
  g98 : ∀ o i, I0 o i → ∀ u j, I4 o i u j → v4A fn a0 a1 a2 a3 ((¬ i < ((v4g fn a0).length : Int)) → (j < ((((v4a fn a0 a1 a2)).length : Int))) → (v4i fn a0 a1 a2 j) → (0 < j) → 0 ≤ j)
  g99 : ∀ o i, I0 o i → ∀ u j, I4 o i u j → v4A fn a0 a1 a2 a3 ((¬ i < ((v4g fn a0).length : Int)) → (j < ((((v4a fn a0 a1 a2)).length : Int))) → (v4i fn a0 a1 a2 j) → (0 < j) → j < ((((v4a fn a0 a1 a2)).length : Int)))
  g100 : ∀ o i, I0 o i → ∀ u j, I4 o i u j → v4A fn a0 a1 a2 a3 ((¬ i < ((v4g fn a0).length : Int)) → (j < ((((v4a fn a0 a1 a2)).length : Int))) → (v4i fn a0 a1 a2 j) → (0 < j) → (((Int.toNat j : Nat) : Int)) < ((((v4a fn a0 a1 a2)).length : Int)))
  g101 : ∀ o i, I0 o i → ∀ u j, I4 o i u j → v4A fn a0 a1 a2 a3 ((¬ i < ((v4g fn a0).length : Int)) → (j < ((((v4a fn a0 a1 a2)).length : Int))) → (v4i fn a0 a1 a2 j) → (0 < j) → v4Z (j - 1))
  g102 : ∀ o i, I0 o i → ∀ u j, I4 o i u j → v4A fn a0 a1 a2 a3 ((¬ i < ((v4g fn a0).length : Int)) → (j < ((((v4a fn a0 a1 a2)).length : Int))) → (v4i fn a0 a1 a2 j) → (0 < j) → 0 ≤ (j - 1))
  g103 : ∀ o i, I0 o i → ∀ u j, I4 o i u j → v4A fn a0 a1 a2 a3 ((¬ i < ((v4g fn a0).length : Int)) → (j < ((((v4a fn a0 a1 a2)).length : Int))) → (v4i fn a0 a1 a2 j) → (0 < j) → (j - 1) < ((((v4a fn a0 a1 a2)).length : Int)))
  g104 : ∀ o i, I0 o i → ∀ u j, I4 o i u j → v4A fn a0 a1 a2 a3 ((¬ i < ((v4g fn a0).length : Int)) → (j < ((((v4a fn a0 a1 a2)).length : Int))) → (v4i fn a0 a1 a2 j) → (0 < j) → (((Int.toNat (j - 1) : Nat) : Int)) < ((((v4a fn a0 a1 a2)).length : Int)))
  g105 : ∀ o i, I0 o i → ∀ u j, I4 o i u j → v4A fn a0 a1 a2 a3 ((¬ i < ((v4g fn a0).length : Int)) → (j < ((((v4a fn a0 a1 a2)).length : Int))) → (v4i fn a0 a1 a2 j) → (0 < j) → ((D.int (gt (v4a fn a0 a1 a2) j.toNat 0)) < (D.int (gt (v4a fn a0 a1 a2) (Int.toNat (j - 1)) 0))) → R 0 0 = D.b false)
  g106 : ∀ o i, I0 o i → ∀ u j, I4 o i u j → v4A fn a0 a1 a2 a3 ((¬ i < ((v4g fn a0).length : Int)) → (j < ((((v4a fn a0 a1 a2)).length : Int))) → (v4i fn a0 a1 a2 j) → (0 < j) → (v4q fn a0 a1 a2 j) → pre 8 [[D.l o], [D.i (v4c fn a1 a2), D.i (v4b fn a1 a2)]])
  g107 : ∀ o i, I0 o i → ∀ u j, I4 o i u j → v4A fn a0 a1 a2 a3 ((¬ i < ((v4g fn a0).length : Int)) → (j < ((((v4a fn a0 a1 a2)).length : Int))) → (v4i fn a0 a1 a2 j) → (0 < j) → (v4q fn a0 a1 a2 j) → (v4o fn o a1 a2) → 0 ≤ j)
  g108 : ∀ o i, I0 o i → ∀ u j, I4 o i u j → v4A fn a0 a1 a2 a3 ((¬ i < ((v4g fn a0).length : Int)) → (j < ((((v4a fn a0 a1 a2)).length : Int))) → (v4i fn a0 a1 a2 j) → (0 < j) → (v4q fn a0 a1 a2 j) → (v4o fn o a1 a2) → j < (o.length : Int))
  g109 : ∀ o i, I0 o i → ∀ u j, I4 o i u j → v4A fn a0 a1 a2 a3 ((¬ i < ((v4g fn a0).length : Int)) → (j < ((((v4a fn a0 a1 a2)).length : Int))) → (v4i fn a0 a1 a2 j) → (0 < j) → (v4q fn a0 a1 a2 j) → (v4o fn o a1 a2) → (((Int.toNat j : Nat) : Int)) < (o.length : Int))
  g112 : ∀ o i, I0 o i → ∀ u j, I4 o i u j → v4A fn a0 a1 a2 a3 ((¬ i < ((v4g fn a0).length : Int)) → (j < ((((v4a fn a0 a1 a2)).length : Int))) → (v4i fn a0 a1 a2 j) → (0 < j) → (v4q fn a0 a1 a2 j) → (v4o fn o a1 a2) → j < ((((v4a fn a0 a1 a2)).length : Int)))
  g113 : ∀ o i, I0 o i → ∀ u j, I4 o i u j → v4A fn a0 a1 a2 a3 ((¬ i < ((v4g fn a0).length : Int)) → (j < ((((v4a fn a0 a1 a2)).length : Int))) → (v4i fn a0 a1 a2 j) → (0 < j) → (v4q fn a0 a1 a2 j) → (v4o fn o a1 a2) → (((Int.toNat j : Nat) : Int)) < ((((v4a fn a0 a1 a2)).length : Int)))
  g114 : ∀ o i, I0 o i → ∀ u j, I4 o i u j → v4A fn a0 a1 a2 a3 ((¬ i < ((v4g fn a0).length : Int)) → (j < ((((v4a fn a0 a1 a2)).length : Int))) → (v4i fn a0 a1 a2 j) → (0 < j) → (v4q fn a0 a1 a2 j) → (v4o fn o a1 a2) → ((D.int (gt o j.toNat 0)) < (D.int (gt (v4a fn a0 a1 a2) j.toNat 0))) → R 0 0 = D.b false)
  g115 : ∀ o i, I0 o i → ∀ u j, I4 o i u j → v4A fn a0 a1 a2 a3 ((¬ i < ((v4g fn a0).length : Int)) → (j < ((((v4a fn a0 a1 a2)).length : Int))) → (v4i fn a0 a1 a2 j) → (0 < j) → (v4q fn a0 a1 a2 j) → (v4o fn o a1 a2) → (¬ (D.int (gt o j.toNat 0)) < (D.int (gt (v4a fn a0 a1 a2) j.toNat 0))) → v4Z (j + 1))
  n116 : ∀ o i, I0 o i → ∀ u j, I4 o i u j → v4A fn a0 a1 a2 a3 ((¬ i < ((v4g fn a0).length : Int)) → (j < ((((v4a fn a0 a1 a2)).length : Int))) → (v4i fn a0 a1 a2 j) → (0 < j) → (v4q fn a0 a1 a2 j) → (v4o fn o a1 a2) → (¬ (D.int (gt o j.toNat 0)) < (D.int (gt (v4a fn a0 a1 a2) j.toNat 0))) → I4 o i u (j + 1) ∧ m4 o i u (j + 1) < m4 o i u j)
  g117 : ∀ o i, I0 o i → ∀ u j, I4 o i u j → v4A fn a0 a1 a2 a3 ((¬ i < ((v4g fn a0).length : Int)) → (j < ((((v4a fn a0 a1 a2)).length : Int))) → (v4i fn a0 a1 a2 j) → (0 < j) → (v4q fn a0 a1 a2 j) → (D.boo (fn 8 [[D.l o], [D.i (v4c fn a1 a2), D.i (v4b fn a1 a2)]] 0 0) = false) → v4Z (j + 1))
  n118 : ∀ o i, I0 o i → ∀ u j, I4 o i u j → v4A fn a0 a1 a2 a3 ((¬ i < ((v4g fn a0).length : Int)) → (j < ((((v4a fn a0 a1 a2)).length : Int))) → (v4i fn a0 a1 a2 j) → (0 < j) → (v4q fn a0 a1 a2 j) → (D.boo (fn 8 [[D.l o], [D.i (v4c fn a1 a2), D.i (v4b fn a1 a2)]] 0 0) = false) → I4 o i u (j + 1) ∧ m4 o i u (j + 1) < m4 o i u j)
  g119 : ∀ o i, I0 o i → ∀ u j, I4 o i u j → v4A fn a0 a1 a2 a3 ((¬ i < ((v4g fn a0).length : Int)) → (j < ((((v4a fn a0 a1 a2)).length : Int))) → (v4i fn a0 a1 a2 j) → (¬ 0 < j) → pre 8 [[D.l o], [D.i (v4c fn a1 a2), D.i (v4b fn a1 a2)]])
  g120 : ∀ o i, I0 o i → ∀ u j, I4 o i u j → v4A fn a0 a1 a2 a3 ((¬ i < ((v4g fn a0).length : Int)) → (j < ((((v4a fn a0 a1 a2)).length : Int))) → (v4i fn a0 a1 a2 j) → (¬ 0 < j) → (v4o fn o a1 a2) → 0 ≤ j)
  g121 : ∀ o i, I0 o i → ∀ u j, I4 o i u j → v4A fn a0 a1 a2 a3 ((¬ i < ((v4g fn a0).length : Int)) → (j < ((((v4a fn a0 a1 a2)).length : Int))) → (v4i fn a0 a1 a2 j) → (¬ 0 < j) → (v4o fn o a1 a2) → j < (o.length : Int))
  g122 : ∀ o i, I0 o i → ∀ u j, I4 o i u j → v4A fn a0 a1 a2 a3 ((¬ i < ((v4g fn a0).length : Int)) → (j < ((((v4a fn a0 a1 a2)).length : Int))) → (v4i fn a0 a1 a2 j) → (¬ 0 < j) → (v4o fn o a1 a2) → (((Int.toNat j : Nat) : Int)) < (o.length : Int))
  g125 : ∀ o i, I0 o i → ∀ u j, I4 o i u j → v4A fn a0 a1 a2 a3 ((¬ i < ((v4g fn a0).length : Int)) → (j < ((((v4a fn a0 a1 a2)).length : Int))) → (v4i fn a0 a1 a2 j) → (¬ 0 < j) → (v4o fn o a1 a2) → j < ((((v4a fn a0 a1 a2)).length : Int)))
  g126 : ∀ o i, I0 o i → ∀ u j, I4 o i u j → v4A fn a0 a1 a2 a3 ((¬ i < ((v4g fn a0).length : Int)) → (j < ((((v4a fn a0 a1 a2)).length : Int))) → (v4i fn a0 a1 a2 j) → (¬ 0 < j) → (v4o fn o a1 a2) → (((Int.toNat j : Nat) : Int)) < ((((v4a fn a0 a1 a2)).length : Int)))
  g127 : ∀ o i, I0 o i → ∀ u j, I4 o i u j → v4A fn a0 a1 a2 a3 ((¬ i < ((v4g fn a0).length : Int)) → (j < ((((v4a fn a0 a1 a2)).length : Int))) → (v4i fn a0 a1 a2 j) → (¬ 0 < j) → (v4o fn o a1 a2) → ((D.int (gt o j.toNat 0)) < (D.int (gt (v4a fn a0 a1 a2) j.toNat 0))) → R 0 0 = D.b false)
  g128 : ∀ o i, I0 o i → ∀ u j, I4 o i u j → v4A fn a0 a1 a2 a3 ((¬ i < ((v4g fn a0).length : Int)) → (j < ((((v4a fn a0 a1 a2)).length : Int))) → (v4i fn a0 a1 a2 j) → (¬ 0 < j) → (v4o fn o a1 a2) → (¬ (D.int (gt o j.toNat 0)) < (D.int (gt (v4a fn a0 a1 a2) j.toNat 0))) → v4Z (j + 1))
  n129 : ∀ o i, I0 o i → ∀ u j, I4 o i u j → v4A fn a0 a1 a2 a3 ((¬ i < ((v4g fn a0).length : Int)) → (j < ((((v4a fn a0 a1 a2)).length : Int))) → (v4i fn a0 a1 a2 j) → (¬ 0 < j) → (v4o fn o a1 a2) → (¬ (D.int (gt o j.toNat 0)) < (D.int (gt (v4a fn a0 a1 a2) j.toNat 0))) → I4 o i u (j + 1) ∧ m4 o i u (j + 1) < m4 o i u j)
  g130 : ∀ o i, I0 o i → ∀ u j, I4 o i u j → v4A fn a0 a1 a2 a3 ((¬ i < ((v4g fn a0).length : Int)) → (j < ((((v4a fn a0 a1 a2)).length : Int))) → (v4i fn a0 a1 a2 j) → (¬ 0 < j) → (D.boo (fn 8 [[D.l o], [D.i (v4c fn a1 a2), D.i (v4b fn a1 a2)]] 0 0) = false) → v4Z (j + 1))
  n131 : ∀ o i, I0 o i → ∀ u j, I4 o i u j → v4A fn a0 a1 a2 a3 ((¬ i < ((v4g fn a0).length : Int)) → (j < ((((v4a fn a0 a1 a2)).length : Int))) → (v4i fn a0 a1 a2 j) → (¬ 0 < j) → (D.boo (fn 8 [[D.l o], [D.i (v4c fn a1 a2), D.i (v4b fn a1 a2)]] 0 0) = false) → I4 o i u (j + 1) ∧ m4 o i u (j + 1) < m4 o i u j)
  g132 : ∀ o i, I0 o i → ∀ u j, I4 o i u j → v4A fn a0 a1 a2 a3 ((¬ i < ((v4g fn a0).length : Int)) → (¬ j < ((((v4a fn a0 a1 a2)).length : Int))) → pre 5 [])
  g133 : ∀ o i, I0 o i → ∀ u j, I4 o i u j → v4A fn a0 a1 a2 a3 ((¬ i < ((v4g fn a0).length : Int)) → (¬ j < ((((v4a fn a0 a1 a2)).length : Int))) → R 0 0 = D.b (D.boo (fn 5 [] 0 0)))
  i5 : v4B fn a0 a1 a2 a3 (I5 [] 0)
  g135 : ∀ o i, I5 o i → v4B fn a0 a1 a2 a3 ((i < ((v4g fn a0).length : Int)) → 0 ≤ i)
  g136 : ∀ o i, I5 o i → v4B fn a0 a1 a2 a3 ((i < ((v4g fn a0).length : Int)) → i < ((v4g fn a0).length : Int))
  g137 : ∀ o i, I5 o i → v4B fn a0 a1 a2 a3 ((i < ((v4g fn a0).length : Int)) → (((Int.toNat i : Nat) : Int)) < ((v4g fn a0).length : Int))
  g139 : ∀ o i, I5 o i → v4B fn a0 a1 a2 a3 ((i < ((v4g fn a0).length : Int)) → (0 < (a3.length : Int)) → (a3.length : Int) ≠ 0)
  g140 : ∀ o i, I5 o i → v4B fn a0 a1 a2 a3 ((i < ((v4g fn a0).length : Int)) → (0 < (a3.length : Int)) → 0 ≤ (Int.tmod i (a3.length : Int)))
  g141 : ∀ o i, I5 o i → v4B fn a0 a1 a2 a3 ((i < ((v4g fn a0).length : Int)) → (0 < (a3.length : Int)) → (Int.tmod i (a3.length : Int)) < (a3.length : Int))
  g142 : ∀ o i, I5 o i → v4B fn a0 a1 a2 a3 ((i < ((v4g fn a0).length : Int)) → (0 < (a3.length : Int)) → (((Int.toNat (Int.tmod i (a3.length : Int)) : Nat) : Int)) < (a3.length : Int))
  g143 : ∀ o i, I5 o i → v4B fn a0 a1 a2 a3 ((i < ((v4g fn a0).length : Int)) → (0 < (a3.length : Int)) → v4Z (D.int (gt a3 (Int.toNat (Int.tmod i (a3.length : Int))) 0)))
  g144 : ∀ o i, I5 o i → v4B fn a0 a1 a2 a3 ((i < ((v4g fn a0).length : Int)) → (0 < (a3.length : Int)) → (9 : Int) ≠ 0)
  g145 : ∀ o i, I5 o i → v4B fn a0 a1 a2 a3 ((i < ((v4g fn a0).length : Int)) → (0 < (a3.length : Int)) → v4Z ((D.int (gt (D.rows (fn 6 [[D.l a0]] 0 0)) i.toNat 0)) + (Int.tmod (D.int (gt a3 (Int.toNat (Int.tmod i (a3.length : Int))) 0)) 9)))
  n146 : ∀ o i, I5 o i → v4B fn a0 a1 a2 a3 ((i < ((v4g fn a0).length : Int)) → (0 < (a3.length : Int)) → I6 o i ((D.int (gt (D.rows (fn 6 [[D.l a0]] 0 0)) i.toNat 0)) + (Int.tmod (D.int (gt a3 (Int.toNat (Int.tmod i (a3.length : Int))) 0)) 9)))
  n147 : ∀ o i, I5 o i → v4B fn a0 a1 a2 a3 ((i < ((v4g fn a0).length : Int)) → (¬ 0 < (a3.length : Int)) → I6 o i (D.int (gt (D.rows (fn 6 [[D.l a0]] 0 0)) i.toNat 0)))
  g149 : ∀ o i, I5 o i → ∀ x, I6 o i x → v4B fn a0 a1 a2 a3 ((i < ((v4g fn a0).length : Int)) → (0 < i) → v4Z (i - 1))
  g150 : ∀ o i, I5 o i → ∀ x, I6 o i x → v4B fn a0 a1 a2 a3 ((i < ((v4g fn a0).length : Int)) → (0 < i) → 0 ≤ (i - 1))
  g151 : ∀ o i, I5 o i → ∀ x, I6 o i x → v4B fn a0 a1 a2 a3 ((i < ((v4g fn a0).length : Int)) → (0 < i) → (i - 1) < (o.length : Int))
  g152 : ∀ o i, I5 o i → ∀ x, I6 o i x → v4B fn a0 a1 a2 a3 ((i < ((v4g fn a0).length : Int)) → (0 < i) → (((Int.toNat (i - 1) : Nat) : Int)) < (o.length : Int))
  n153 : ∀ o i, I5 o i → ∀ x, I6 o i x → v4B fn a0 a1 a2 a3 ((i < ((v4g fn a0).length : Int)) → (0 < i) → I7 o i x (mxI x (D.int (gt o (Int.toNat (i - 1)) 0))))
  n154 : ∀ o i, I5 o i → ∀ x, I6 o i x → v4B fn a0 a1 a2 a3 ((i < ((v4g fn a0).length : Int)) → (¬ 0 < i) → I7 o i x x)
  g155 : ∀ o i, I5 o i → ∀ x, I6 o i x → ∀ y, I7 o i x y → v4B fn a0 a1 a2 a3 ((i < ((v4g fn a0).length : Int)) → (o.length + (List.length ([[D.i y]] : Rows))) * 8 ≤ 4294967296 ∧ (o.length + (List.length ([[D.i y]] : Rows))) ≤ 4294967296)
  i8 : ∀ o i, I5 o i → ∀ x, I6 o i x → ∀ y, I7 o i x y → v4B fn a0 a1 a2 a3 ((i < ((v4g fn a0).length : Int)) → I8 o i x y 0 (o ++ [[D.i y]]))
  g157 : ∀ o i, I5 o i → ∀ x, I6 o i x → ∀ y, I7 o i x y → ∀ k z, I8 o i x y k z → v4B fn a0 a1 a2 a3 ((i < ((v4g fn a0).length : Int)) → (k < i) → (0 < (v4b fn a1 a2)) → v4Z (i - k))
  g158 : ∀ o i, I5 o i → ∀ x, I6 o i x → ∀ y, I7 o i x y → ∀ k z, I8 o i x y k z → v4B fn a0 a1 a2 a3 ((i < ((v4g fn a0).length : Int)) → (k < i) → (0 < (v4b fn a1 a2)) → v4Z ((i - k) + 1))
  g159 : ∀ o i, I5 o i → ∀ x, I6 o i x → ∀ y, I7 o i x y → ∀ k z, I8 o i x y k z → v4B fn a0 a1 a2 a3 ((i < ((v4g fn a0).length : Int)) → (k < i) → (0 < (v4b fn a1 a2)) → v4Z (1024 * ((i - k) + 1)))
  g160 : ∀ o i, I5 o i → ∀ x, I6 o i x → ∀ y, I7 o i x y → ∀ k z, I8 o i x y k z → v4B fn a0 a1 a2 a3 ((i < ((v4g fn a0).length : Int)) → (k < i) → (0 < (v4b fn a1 a2)) → 0 ≤ i)
  g161 : ∀ o i, I5 o i → ∀ x, I6 o i x → ∀ y, I7 o i x y → ∀ k z, I8 o i x y k z → v4B fn a0 a1 a2 a3 ((i < ((v4g fn a0).length : Int)) → (k < i) → (0 < (v4b fn a1 a2)) → i < (z.length : Int))
  g162 : ∀ o i, I5 o i → ∀ x, I6 o i x → ∀ y, I7 o i x y → ∀ k z, I8 o i x y k z → v4B fn a0 a1 a2 a3 ((i < ((v4g fn a0).length : Int)) → (k < i) → (0 < (v4b fn a1 a2)) → (((Int.toNat i : Nat) : Int)) < (z.length : Int))
  g164 : ∀ o i, I5 o i → ∀ x, I6 o i x → ∀ y, I7 o i x y → ∀ k z, I8 o i x y k z → v4B fn a0 a1 a2 a3 ((i < ((v4g fn a0).length : Int)) → (k < i) → (0 < (v4b fn a1 a2)) → 0 ≤ k)
  g165 : ∀ o i, I5 o i → ∀ x, I6 o i x → ∀ y, I7 o i x y → ∀ k z, I8 o i x y k z → v4B fn a0 a1 a2 a3 ((i < ((v4g fn a0).length : Int)) → (k < i) → (0 < (v4b fn a1 a2)) → k < (z.length : Int))
  g166 : ∀ o i, I5 o i → ∀ x, I6 o i x → ∀ y, I7 o i x y → ∀ k z, I8 o i x y k z → v4B fn a0 a1 a2 a3 ((i < ((v4g fn a0).length : Int)) → (k < i) → (0 < (v4b fn a1 a2)) → (((Int.toNat k : Nat) : Int)) < (z.length : Int))
  g168 : ∀ o i, I5 o i → ∀ x, I6 o i x → ∀ y, I7 o i x y → ∀ k z, I8 o i x y k z → v4B fn a0 a1 a2 a3 ((i < ((v4g fn a0).length : Int)) → (k < i) → (0 < (v4b fn a1 a2)) → v4Z (v4s z i k))
  g169 : ∀ o i, I5 o i → ∀ x, I6 o i x → ∀ y, I7 o i x y → ∀ k z, I8 o i x y k z → v4B fn a0 a1 a2 a3 ((i < ((v4g fn a0).length : Int)) → (k < i) → (0 < (v4b fn a1 a2)) → v4Z ((v4s z i k) + 1))
  g170 : ∀ o i, I5 o i → ∀ x, I6 o i x → ∀ y, I7 o i x y → ∀ k z, I8 o i x y k z → v4B fn a0 a1 a2 a3 ((i < ((v4g fn a0).length : Int)) → (k < i) → (0 < (v4b fn a1 a2)) → v4Z ((v4b fn a1 a2) * ((v4s z i k) + 1)))
  g171 : ∀ o i, I5 o i → ∀ x, I6 o i x → ∀ y, I7 o i x y → ∀ k z, I8 o i x y k z → v4B fn a0 a1 a2 a3 ((i < ((v4g fn a0).length : Int)) → (k < i) → (0 < (v4b fn a1 a2)) → v4Z ((v4c fn a1 a2) + ((v4b fn a1 a2) * ((v4s z i k) + 1))))
  g172 : ∀ o i, I5 o i → ∀ x, I6 o i x → ∀ y, I7 o i x y → ∀ k z, I8 o i x y k z → v4B fn a0 a1 a2 a3 ((i < ((v4g fn a0).length : Int)) → (k < i) → (0 < (v4b fn a1 a2)) → (v4k fn a1 a2 z i k) → 0 ≤ k)
  g173 : ∀ o i, I5 o i → ∀ x, I6 o i x → ∀ y, I7 o i x y → ∀ k z, I8 o i x y k z → v4B fn a0 a1 a2 a3 ((i < ((v4g fn a0).length : Int)) → (k < i) → (0 < (v4b fn a1 a2)) → (v4k fn a1 a2 z i k) → k < (z.length : Int))
  g174 : ∀ o i, I5 o i → ∀ x, I6 o i x → ∀ y, I7 o i x y → ∀ k z, I8 o i x y k z → v4B fn a0 a1 a2 a3 ((i < ((v4g fn a0).length : Int)) → (k < i) → (0 < (v4b fn a1 a2)) → (v4k fn a1 a2 z i k) → (((Int.toNat k : Nat) : Int)) < (z.length : Int))
  g176 : ∀ o i, I5 o i → ∀ x, I6 o i x → ∀ y, I7 o i x y → ∀ k z, I8 o i x y k z → v4B fn a0 a1 a2 a3 ((i < ((v4g fn a0).length : Int)) → (k < i) → (0 < (v4b fn a1 a2)) → (v4k fn a1 a2 z i k) → v4Z ((D.int (gt z k.toNat 0)) - 1))
  g177 : ∀ o i, I5 o i → ∀ x, I6 o i x → ∀ y, I7 o i x y → ∀ k z, I8 o i x y k z → v4B fn a0 a1 a2 a3 ((i < ((v4g fn a0).length : Int)) → (k < i) → (0 < (v4b fn a1 a2)) → (v4k fn a1 a2 z i k) → v4Z (i - k))
  g178 : ∀ o i, I5 o i → ∀ x, I6 o i x → ∀ y, I7 o i x y → ∀ k z, I8 o i x y k z → v4B fn a0 a1 a2 a3 ((i < ((v4g fn a0).length : Int)) → (k < i) → (0 < (v4b fn a1 a2)) → (v4k fn a1 a2 z i k) → v4Z ((i - k) + 1))
  g179 : ∀ o i, I5 o i → ∀ x, I6 o i x → ∀ y, I7 o i x y → ∀ k z, I8 o i x y k z → v4B fn a0 a1 a2 a3 ((i < ((v4g fn a0).length : Int)) → (k < i) → (0 < (v4b fn a1 a2)) → (v4k fn a1 a2 z i k) → v4Z (1024 * ((i - k) + 1)))
  g180 : ∀ o i, I5 o i → ∀ x, I6 o i x → ∀ y, I7 o i x y → ∀ k z, I8 o i x y k z → v4B fn a0 a1 a2 a3 ((i < ((v4g fn a0).length : Int)) → (k < i) → (0 < (v4b fn a1 a2)) → (v4k fn a1 a2 z i k) → v4Z ((1024 * ((i - k) + 1)) - (v4c fn a1 a2)))
  g181 : ∀ o i, I5 o i → ∀ x, I6 o i x → ∀ y, I7 o i x y → ∀ k z, I8 o i x y k z → v4B fn a0 a1 a2 a3 ((i < ((v4g fn a0).length : Int)) → (k < i) → (0 < (v4b fn a1 a2)) → (v4k fn a1 a2 z i k) → v4Z (((1024 * ((i - k) + 1)) - (v4c fn a1 a2)) + (v4b fn a1 a2)))
  g182 : ∀ o i, I5 o i → ∀ x, I6 o i x → ∀ y, I7 o i x y → ∀ k z, I8 o i x y k z → v4B fn a0 a1 a2 a3 ((i < ((v4g fn a0).length : Int)) → (k < i) → (0 < (v4b fn a1 a2)) → (v4k fn a1 a2 z i k) → v4Z ((((1024 * ((i - k) + 1)) - (v4c fn a1 a2)) + (v4b fn a1 a2)) - 1))
  g183 : ∀ o i, I5 o i → ∀ x, I6 o i x → ∀ y, I7 o i x y → ∀ k z, I8 o i x y k z → v4B fn a0 a1 a2 a3 ((i < ((v4g fn a0).length : Int)) → (k < i) → (0 < (v4b fn a1 a2)) → (v4k fn a1 a2 z i k) → (v4b fn a1 a2) ≠ 0)
  g184 : ∀ o i, I5 o i → ∀ x, I6 o i x → ∀ y, I7 o i x y → ∀ k z, I8 o i x y k z → v4B fn a0 a1 a2 a3 ((i < ((v4g fn a0).length : Int)) → (k < i) → (0 < (v4b fn a1 a2)) → (v4k fn a1 a2 z i k) → v4Z (Int.tdiv ((((1024 * ((i - k) + 1)) - (v4c fn a1 a2)) + (v4b fn a1 a2)) - 1) (v4b fn a1 a2)))
  g185 : ∀ o i, I5 o i → ∀ x, I6 o i x → ∀ y, I7 o i x y → ∀ k z, I8 o i x y k z → v4B fn a0 a1 a2 a3 ((i < ((v4g fn a0).length : Int)) → (k < i) → (0 < (v4b fn a1 a2)) → (v4k fn a1 a2 z i k) → v4Z (((D.int (gt z k.toNat 0)) - 1) + (Int.tdiv ((((1024 * ((i - k) + 1)) - (v4c fn a1 a2)) + (v4b fn a1 a2)) - 1) (v4b fn a1 a2))))
  g186 : ∀ o i, I5 o i → ∀ x, I6 o i x → ∀ y, I7 o i x y → ∀ k z, I8 o i x y k z → v4B fn a0 a1 a2 a3 ((i < ((v4g fn a0).length : Int)) → (k < i) → (0 < (v4b fn a1 a2)) → (v4k fn a1 a2 z i k) → 0 ≤ i)
  g187 : ∀ o i, I5 o i → ∀ x, I6 o i x → ∀ y, I7 o i x y → ∀ k z, I8 o i x y k z → v4B fn a0 a1 a2 a3 ((i < ((v4g fn a0).length : Int)) → (k < i) → (0 < (v4b fn a1 a2)) → (v4k fn a1 a2 z i k) → i < (z.length : Int))
  g188 : ∀ o i, I5 o i → ∀ x, I6 o i x → ∀ y, I7 o i x y → ∀ k z, I8 o i x y k z → v4B fn a0 a1 a2 a3 ((i < ((v4g fn a0).length : Int)) → (k < i) → (0 < (v4b fn a1 a2)) → (v4k fn a1 a2 z i k) → (((Int.toNat i : Nat) : Int)) < (z.length : Int))
  g189 : ∀ o i, I5 o i → ∀ x, I6 o i x → ∀ y, I7 o i x y → ∀ k z, I8 o i x y k z → v4B fn a0 a1 a2 a3 ((i < ((v4g fn a0).length : Int)) → (k < i) → (0 < (v4b fn a1 a2)) → (v4k fn a1 a2 z i k) → v4Z (k + 1))
  n190 : ∀ o i, I5 o i → ∀ x, I6 o i x → ∀ y, I7 o i x y → ∀ k z, I8 o i x y k z → v4B fn a0 a1 a2 a3 ((i < ((v4g fn a0).length : Int)) → (k < i) → (0 < (v4b fn a1 a2)) → (v4k fn a1 a2 z i k) → I8 o i x y (k + 1) (List.set z i.toNat [D.i (((D.int (gt z k.toNat 0)) - 1) + (Int.tdiv ((((1024 * ((i - k) + 1)) - (v4c fn a1 a2)) + (v4b fn a1 a2)) - 1) (v4b fn a1 a2)))]) ∧ m8 o i x y (k + 1) (List.set z i.toNat [D.i (((D.int (gt z k.toNat 0)) - 1) + (Int.tdiv ((((1024 * ((i - k) + 1)) - (v4c fn a1 a2)) + (v4b fn a1 a2)) - 1) (v4b fn a1 a2)))]) < m8 o i x y k z)
  g191 : ∀ o i, I5 o i → ∀ x, I6 o i x → ∀ y, I7 o i x y → ∀ k z, I8 o i x y k z → v4B fn a0 a1 a2 a3 ((i < ((v4g fn a0).length : Int)) → (k < i) → (0 < (v4b fn a1 a2)) → (¬ ((v4c fn a1 a2) + ((v4b fn a1 a2) * ((v4s z i k) + 1))) < (1024 * ((i - k) + 1))) → v4Z (k + 1))
  n192 : ∀ o i, I5 o i → ∀ x, I6 o i x → ∀ y, I7 o i x y → ∀ k z, I8 o i x y k z → v4B fn a0 a1 a2 a3 ((i < ((v4g fn a0).length : Int)) → (k < i) → (0 < (v4b fn a1 a2)) → (¬ ((v4c fn a1 a2) + ((v4b fn a1 a2) * ((v4s z i k) + 1))) < (1024 * ((i - k) + 1))) → I8 o i x y (k + 1) z ∧ m8 o i x y (k + 1) z < m8 o i x y k z)
  g193 : ∀ o i, I5 o i → ∀ x, I6 o i x → ∀ y, I7 o i x y → ∀ k z, I8 o i x y k z → v4B fn a0 a1 a2 a3 ((i < ((v4g fn a0).length : Int)) → (k < i) → (¬ 0 < (v4b fn a1 a2)) → v4Z (k + 1))
  n194 : ∀ o i, I5 o i → ∀ x, I6 o i x → ∀ y, I7 o i x y → ∀ k z, I8 o i x y k z → v4B fn a0 a1 a2 a3 ((i < ((v4g fn a0).length : Int)) → (k < i) → (¬ 0 < (v4b fn a1 a2)) → I8 o i x y (k + 1) z ∧ m8 o i x y (k + 1) z < m8 o i x y k z)
  g195 : ∀ o i, I5 o i → ∀ x, I6 o i x → ∀ y, I7 o i x y → ∀ k z, I8 o i x y k z → v4B fn a0 a1 a2 a3 ((i < ((v4g fn a0).length : Int)) → (¬ k < i) → v4Z (i + 1))
  n196 : ∀ o i, I5 o i → ∀ x, I6 o i x → ∀ y, I7 o i x y → ∀ k z, I8 o i x y k z → v4B fn a0 a1 a2 a3 ((i < ((v4g fn a0).length : Int)) → (¬ k < i) → I5 z (i + 1) ∧ m5 z (i + 1) < m5 o i)
  i9 : ∀ o i, I5 o i → v4B fn a0 a1 a2 a3 ((¬ i < ((v4g fn a0).length : Int)) → I9 o i false 0)
  g198 : ∀ o i, I5 o i → ∀ u j, I9 o i u j → v4B fn a0 a1 a2 a3 ((¬ i < ((v4g fn a0).length : Int)) → (j < ((((v4a fn a0 a1 a2)).length : Int))) → 0 ≤ j)
  g199 : ∀ o i, I5 o i → ∀ u j, I9 o i u j → v4B fn a0 a1 a2 a3 ((¬ i < ((v4g fn a0).length : Int)) → (j < ((((v4a fn a0 a1 a2)).length : Int))) → j < ((((v4a fn a0 a1 a2)).length : Int)))
  g200 : ∀ o i, I5 o i → ∀ u j, I9 o i u j → v4B fn a0 a1 a2 a3 ((¬ i < ((v4g fn a0).length : Int)) → (j < ((((v4a fn a0 a1 a2)).length : Int))) → (((Int.toNat j : Nat) : Int)) < ((((v4a fn a0 a1 a2)).length : Int)))
  g202 : ∀ o i, I5 o i → ∀ u j, I9 o i u j → v4B fn a0 a1 a2 a3 ((¬ i < ((v4g fn a0).length : Int)) → (j < ((((v4a fn a0 a1 a2)).length : Int))) → j < ((v4g fn a0).length : Int))
  g203 : ∀ o i, I5 o i → ∀ u j, I9 o i u j → v4B fn a0 a1 a2 a3 ((¬ i < ((v4g fn a0).length : Int)) → (j < ((((v4a fn a0 a1 a2)).length : Int))) → (((Int.toNat j : Nat) : Int)) < ((v4g fn a0).length : Int))
  g204 : ∀ o i, I5 o i → ∀ u j, I9 o i u j → v4B fn a0 a1 a2 a3 ((¬ i < ((v4g fn a0).length : Int)) → (j < ((((v4a fn a0 a1 a2)).length : Int))) → ((D.int (gt (v4a fn a0 a1 a2) j.toNat 0)) < (D.int (gt (D.rows (fn 6 [[D.l a0]] 0 0)) j.toNat 0))) → R 0 0 = D.b false)
  g205 : ∀ o i, I5 o i → ∀ u j, I9 o i u j → v4B fn a0 a1 a2 a3 ((¬ i < ((v4g fn a0).length : Int)) → (j < ((((v4a fn a0 a1 a2)).length : Int))) → (v4i fn a0 a1 a2 j) → (0 < j) → 0 ≤ j)
  g206 : ∀ o i, I5 o i → ∀ u j, I9 o i u j → v4B fn a0 a1 a2 a3 ((¬ i < ((v4g fn a0).length : Int)) → (j < ((((v4a fn a0 a1 a2)).length : Int))) → (v4i fn a0 a1 a2 j) → (0 < j) → j < ((((v4a fn a0 a1 a2)).length : Int)))
  g207 : ∀ o i, I5 o i → ∀ u j, I9 o i u j → v4B fn a0 a1 a2 a3 ((¬ i < ((v4g fn a0).length : Int)) → (j < ((((v4a fn a0 a1 a2)).length : Int))) → (v4i fn a0 a1 a2 j) → (0 < j) → (((Int.toNat j : Nat) : Int)) < ((((v4a fn a0 a1 a2)).length : Int)))
  g208 : ∀ o i, I5 o i → ∀ u j, I9 o i u j → v4B fn a0 a1 a2 a3 ((¬ i < ((v4g fn a0).length : Int)) → (j < ((((v4a fn a0 a1 a2)).length : Int))) → (v4i fn a0 a1 a2 j) → (0 < j) → v4Z (j - 1))
  g209 : ∀ o i, I5 o i → ∀ u j, I9 o i u j → v4B fn a0 a1 a2 a3 ((¬ i < ((v4g fn a0).length : Int)) → (j < ((((v4a fn a0 a1 a2)).length : Int))) → (v4i fn a0 a1 a2 j) → (0 < j) → 0 ≤ (j - 1))
  g210 : ∀ o i, I5 o i → ∀ u j, I9 o i u j → v4B fn a0 a1 a2 a3 ((¬ i < ((v4g fn a0).length : Int)) → (j < ((((v4a fn a0 a1 a2)).length : Int))) → (v4i fn a0 a1 a2 j) → (0 < j) → (j - 1) < ((((v4a fn a0 a1 a2)).length : Int)))
  g211 : ∀ o i, I5 o i → ∀ u j, I9 o i u j → v4B fn a0 a1 a2 a3 ((¬ i < ((v4g fn a0).length : Int)) → (j < ((((v4a fn a0 a1 a2)).length : Int))) → (v4i fn a0 a1 a2 j) → (0 < j) → (((Int.toNat (j - 1) : Nat) : Int)) < ((((v4a fn a0 a1 a2)).length : Int)))
  g212 : ∀ o i, I5 o i → ∀ u j, I9 o i u j → v4B fn a0 a1 a2 a3 ((¬ i < ((v4g fn a0).length : Int)) → (j < ((((v4a fn a0 a1 a2)).length : Int))) → (v4i fn a0 a1 a2 j) → (0 < j) → ((D.int (gt (v4a fn a0 a1 a2) j.toNat 0)) < (D.int (gt (v4a fn a0 a1 a2) (Int.toNat (j - 1)) 0))) → R 0 0 = D.b false)
  g213 : ∀ o i, I5 o i → ∀ u j, I9 o i u j → v4B fn a0 a1 a2 a3 ((¬ i < ((v4g fn a0).length : Int)) → (j < ((((v4a fn a0 a1 a2)).length : Int))) → (v4i fn a0 a1 a2 j) → (0 < j) → (v4q fn a0 a1 a2 j) → pre 8 [[D.l o], [D.i (v4c fn a1 a2), D.i (v4b fn a1 a2)]])
  g214 : ∀ o i, I5 o i → ∀ u j, I9 o i u j → v4B fn a0 a1 a2 a3 ((¬ i < ((v4g fn a0).length : Int)) → (j < ((((v4a fn a0 a1 a2)).length : Int))) → (v4i fn a0 a1 a2 j) → (0 < j) → (v4q fn a0 a1 a2 j) → (v4o fn o a1 a2) → 0 ≤ j)
  g215 : ∀ o i, I5 o i → ∀ u j, I9 o i u j → v4B fn a0 a1 a2 a3 ((¬ i < ((v4g fn a0).length : Int)) → (j < ((((v4a fn a0 a1 a2)).length : Int))) → (v4i fn a0 a1 a2 j) → (0 < j) → (v4q fn a0 a1 a2 j) → (v4o fn o a1 a2) → j < (o.length : Int))
  g216 : ∀ o i, I5 o i → ∀ u j, I9 o i u j → v4B fn a0 a1 a2 a3 ((¬ i < ((v4g fn a0).length : Int)) → (j < ((((v4a fn a0 a1 a2)).length : Int))) → (v4i fn a0 a1 a2 j) → (0 < j) → (v4q fn a0 a1 a2 j) → (v4o fn o a1 a2) → (((Int.toNat j : Nat) : Int)) < (o.length : Int))
  g219 : ∀ o i, I5 o i → ∀ u j, I9 o i u j → v4B fn a0 a1 a2 a3 ((¬ i < ((v4g fn a0).length : Int)) → (j < ((((v4a fn a0 a1 a2)).length : Int))) → (v4i fn a0 a1 a2 j) → (0 < j) → (v4q fn a0 a1 a2 j) → (v4o fn o a1 a2) → j < ((((v4a fn a0 a1 a2)).length : Int)))
  g220 : ∀ o i, I5 o i → ∀ u j, I9 o i u j → v4B fn a0 a1 a2 a3 ((¬ i < ((v4g fn a0).length : Int)) → (j < ((((v4a fn a0 a1 a2)).length : Int))) → (v4i fn a0 a1 a2 j) → (0 < j) → (v4q fn a0 a1 a2 j) → (v4o fn o a1 a2) → (((Int.toNat j : Nat) : Int)) < ((((v4a fn a0 a1 a2)).length : Int)))
  g221 : ∀ o i, I5 o i → ∀ u j, I9 o i u j → v4B fn a0 a1 a2 a3 ((¬ i < ((v4g fn a0).length : Int)) → (j < ((((v4a fn a0 a1 a2)).length : Int))) → (v4i fn a0 a1 a2 j) → (0 < j) → (v4q fn a0 a1 a2 j) → (v4o fn o a1 a2) → ((D.int (gt o j.toNat 0)) < (D.int (gt (v4a fn a0 a1 a2) j.toNat 0))) → R 0 0 = D.b false)
  g222 : ∀ o i, I5 o i → ∀ u j, I9 o i u j → v4B fn a0 a1 a2 a3 ((¬ i < ((v4g fn a0).length : Int)) → (j < ((((v4a fn a0 a1 a2)).length : Int))) → (v4i fn a0 a1 a2 j) → (0 < j) → (v4q fn a0 a1 a2 j) → (v4o fn o a1 a2) → (¬ (D.int (gt o j.toNat 0)) < (D.int (gt (v4a fn a0 a1 a2) j.toNat 0))) → v4Z (j + 1))
  n223 : ∀ o i, I5 o i → ∀ u j, I9 o i u j → v4B fn a0 a1 a2 a3 ((¬ i < ((v4g fn a0).length : Int)) → (j < ((((v4a fn a0 a1 a2)).length : Int))) → (v4i fn a0 a1 a2 j) → (0 < j) → (v4q fn a0 a1 a2 j) → (v4o fn o a1 a2) → (¬ (D.int (gt o j.toNat 0)) < (D.int (gt (v4a fn a0 a1 a2) j.toNat 0))) → I9 o i u (j + 1) ∧ m9 o i u (j + 1) < m9 o i u j)
  g224 : ∀ o i, I5 o i → ∀ u j, I9 o i u j → v4B fn a0 a1 a2 a3 ((¬ i < ((v4g fn a0).length : Int)) → (j < ((((v4a fn a0 a1 a2)).length : Int))) → (v4i fn a0 a1 a2 j) → (0 < j) → (v4q fn a0 a1 a2 j) → (D.boo (fn 8 [[D.l o], [D.i (v4c fn a1 a2), D.i (v4b fn a1 a2)]] 0 0) = false) → v4Z (j + 1))
  n225 : ∀ o i, I5 o i → ∀ u j, I9 o i u j → v4B fn a0 a1 a2 a3 ((¬ i < ((v4g fn a0).length : Int)) → (j < ((((v4a fn a0 a1 a2)).length : Int))) → (v4i fn a0 a1 a2 j) → (0 < j) → (v4q fn a0 a1 a2 j) → (D.boo (fn 8 [[D.l o], [D.i (v4c fn a1 a2), D.i (v4b fn a1 a2)]] 0 0) = false) → I9 o i u (j + 1) ∧ m9 o i u (j + 1) < m9 o i u j)
  g226 : ∀ o i, I5 o i → ∀ u j, I9 o i u j → v4B fn a0 a1 a2 a3 ((¬ i < ((v4g fn a0).length : Int)) → (j < ((((v4a fn a0 a1 a2)).length : Int))) → (v4i fn a0 a1 a2 j) → (¬ 0 < j) → pre 8 [[D.l o], [D.i (v4c fn a1 a2), D.i (v4b fn a1 a2)]])
  g227 : ∀ o i, I5 o i → ∀ u j, I9 o i u j → v4B fn a0 a1 a2 a3 ((¬ i < ((v4g fn a0).length : Int)) → (j < ((((v4a fn a0 a1 a2)).length : Int))) → (v4i fn a0 a1 a2 j) → (¬ 0 < j) → (v4o fn o a1 a2) → 0 ≤ j)
  g228 : ∀ o i, I5 o i → ∀ u j, I9 o i u j → v4B fn a0 a1 a2 a3 ((¬ i < ((v4g fn a0).length : Int)) → (j < ((((v4a fn a0 a1 a2)).length : Int))) → (v4i fn a0 a1 a2 j) → (¬ 0 < j) → (v4o fn o a1 a2) → j < (o.length : Int))
  g229 : ∀ o i, I5 o i → ∀ u j, I9 o i u j → v4B fn a0 a1 a2 a3 ((¬ i < ((v4g fn a0).length : Int)) → (j < ((((v4a fn a0 a1 a2)).length : Int))) → (v4i fn a0 a1 a2 j) → (¬ 0 < j) → (v4o fn o a1 a2) → (((Int.toNat j : Nat) : Int)) < (o.length : Int))
  g232 : ∀ o i, I5 o i → ∀ u j, I9 o i u j → v4B fn a0 a1 a2 a3 ((¬ i < ((v4g fn a0).length : Int)) → (j < ((((v4a fn a0 a1 a2)).length : Int))) → (v4i fn a0 a1 a2 j) → (¬ 0 < j) → (v4o fn o a1 a2) → j < ((((v4a fn a0 a1 a2)).length : Int)))
  g233 : ∀ o i, I5 o i → ∀ u j, I9 o i u j → v4B fn a0 a1 a2 a3 ((¬ i < ((v4g fn a0).length : Int)) → (j < ((((v4a fn a0 a1 a2)).length : Int))) → (v4i fn a0 a1 a2 j) → (¬ 0 < j) → (v4o fn o a1 a2) → (((Int.toNat j : Nat) : Int)) < ((((v4a fn a0 a1 a2)).length : Int)))
  g234 : ∀ o i, I5 o i → ∀ u j, I9 o i u j → v4B fn a0 a1 a2 a3 ((¬ i < ((v4g fn a0).length : Int)) → (j < ((((v4a fn a0 a1 a2)).length : Int))) → (v4i fn a0 a1 a2 j) → (¬ 0 < j) → (v4o fn o a1 a2) → ((D.int (gt o j.toNat 0)) < (D.int (gt (v4a fn a0 a1 a2) j.toNat 0))) → R 0 0 = D.b false)
  g235 : ∀ o i, I5 o i → ∀ u j, I9 o i u j → v4B fn a0 a1 a2 a3 ((¬ i < ((v4g fn a0).length : Int)) → (j < ((((v4a fn a0 a1 a2)).length : Int))) → (v4i fn a0 a1 a2 j) → (¬ 0 < j) → (v4o fn o a1 a2) → (¬ (D.int (gt o j.toNat 0)) < (D.int (gt (v4a fn a0 a1 a2) j.toNat 0))) → v4Z (j + 1))
  n236 : ∀ o i, I5 o i → ∀ u j, I9 o i u j → v4B fn a0 a1 a2 a3 ((¬ i < ((v4g fn a0).length : Int)) → (j < ((((v4a fn a0 a1 a2)).length : Int))) → (v4i fn a0 a1 a2 j) → (¬ 0 < j) → (v4o fn o a1 a2) → (¬ (D.int (gt o j.toNat 0)) < (D.int (gt (v4a fn a0 a1 a2) j.toNat 0))) → I9 o i u (j + 1) ∧ m9 o i u (j + 1) < m9 o i u j)
  g237 : ∀ o i, I5 o i → ∀ u j, I9 o i u j → v4B fn a0 a1 a2 a3 ((¬ i < ((v4g fn a0).length : Int)) → (j < ((((v4a fn a0 a1 a2)).length : Int))) → (v4i fn a0 a1 a2 j) → (¬ 0 < j) → (D.boo (fn 8 [[D.l o], [D.i (v4c fn a1 a2), D.i (v4b fn a1 a2)]] 0 0) = false) → v4Z (j + 1))
  n238 : ∀ o i, I5 o i → ∀ u j, I9 o i u j → v4B fn a0 a1 a2 a3 ((¬ i < ((v4g fn a0).length : Int)) → (j < ((((v4a fn a0 a1 a2)).length : Int))) → (v4i fn a0 a1 a2 j) → (¬ 0 < j) → (D.boo (fn 8 [[D.l o], [D.i (v4c fn a1 a2), D.i (v4b fn a1 a2)]] 0 0) = false) → I9 o i u (j + 1) ∧ m9 o i u (j + 1) < m9 o i u j)
  g239 : ∀ o i, I5 o i → ∀ u j, I9 o i u j → v4B fn a0 a1 a2 a3 ((¬ i < ((v4g fn a0).length : Int)) → (¬ j < ((((v4a fn a0 a1 a2)).length : Int))) → pre 5 [])
  g240 : ∀ o i, I5 o i → ∀ u j, I9 o i u j → v4B fn a0 a1 a2 a3 ((¬ i < ((v4g fn a0).length : Int)) → (¬ j < ((((v4a fn a0 a1 a2)).length : Int))) → R 0 0 = D.b (D.boo (fn 5 [] 0 0)))
end HX

namespace HX
open Go CX

def headId : Code → Nat
  | .region id _ _ => id
  | .seq a _ => headId a
  | .block _ b => headId b
  | _ => 0
def memB : List Nat → Nat → Bool
  | [], _ => false
  | a :: r, x => match beqN a x with
    | true => true
    | false => memB r x

def vcJ (E : Env) (rd : Option Nat) (lo : Nat) (ci : CI) (js : List Nat) : Code → (Ex → St → Prop) → St → Prop
  | .seq a b, Q, σ => vcJ E rd lo ci js a (thenQ (fun σ' => vcJ E rd lo ci js b Q σ') Q) σ
  | .block id b, Q, σ => vcJ E rd lo ci js b (inBlockQ id Q) σ
  | .cond c a b, Q, σ => match memB js (headId a) with
    | true => Leaf E.E rd lo (.cond c a b) Q σ
    | false => match evR σ.regs c with
      | .bool true => vcJ E rd lo ci js a Q σ
      | .bool false => vcJ E rd lo ci js b Q σ
      | .sym p => Br p (fun _ => vcJ E rd lo ci js a Q (knowO σ c true)) (fun _ => vcJ E rd lo ci js b Q (knowO σ c false))
      | _ => StuckC (.cond c .skip .skip) σ
  | .region id ops draw, Q, σ => match memB js id with
    | true => Leaf E.E rd lo (.region id ops draw) Q σ
    | false => vc E rd lo ci (.region id ops draw) Q σ
  | c, Q, σ => vc E rd lo ci c Q σ

section
variable {E : Env} (hE : EnvOk E)
include hE
theorem vcJ_ok {ci : CI} (hci : CIOk E.E ci) (js : List Nat) {rd : Option Nat} {lo : Nat} : ∀ (c : Code) (Q : Ex → St → Prop) (σ : St), vcJ E rd lo ci js c Q σ → SWP E.E rd lo c Q σ
  | .seq a b, Q, σ, h => fun C S hS hlo hrd => by
    obtain ⟨e, S1, C1, σ1, k1, k2, k3, k4⟩ := vcJ_ok hci js a _ σ h C S hS hlo hrd
    cases e with
    | normal =>
      obtain ⟨e, S2, C2, σ2, l1, l2, l3, l4⟩ := vcJ_ok hci js b Q σ1 k4 C1 S1 k2 k3.m.le hrd
      refine ⟨e, S2, C2, σ2, (k1.and l1).succ fun n hn => ?_, l2, k3.trans l3, l4⟩
      show cxBody E.E (cx E.E n) (rd.map C.ids) (.seq a b) S = _
      have hn2 := hn.2
      rw [rd_ag hE hrd k3.m.ag] at hn2
      simp only [cxBody, hn.1, hn2]
    | ret =>
      refine ⟨.ret, S1, C1, σ1, k1.succ fun n hn => ?_, k2, k3, k4⟩
      show cxBody E.E (cx E.E n) (rd.map C.ids) (.seq a b) S = _
      simp only [cxBody, hn]
    | exit i =>
      refine ⟨.exit i, S1, C1, σ1, k1.succ fun n hn => ?_, k2, k3, k4⟩
      show cxBody E.E (cx E.E n) (rd.map C.ids) (.seq a b) S = _
      simp only [cxBody, hn]
  | .block id b, Q, σ, h => fun C S hS hlo hrd => by
    obtain ⟨e, S1, C1, σ1, k1, k2, k3, k4⟩ := vcJ_ok hci js b _ σ h C S hS hlo hrd
    cases e with
    | normal =>
      refine ⟨.normal, S1, C1, σ1, k1.succ fun n hn => ?_, k2, k3, k4⟩
      show cxBody E.E (cx E.E n) (rd.map C.ids) (.block id b) S = _
      simp only [cxBody, hn]
    | ret =>
      refine ⟨.ret, S1, C1, σ1, k1.succ fun n hn => ?_, k2, k3, k4⟩
      show cxBody E.E (cx E.E n) (rd.map C.ids) (.block id b) S = _
      simp only [cxBody, hn]
    | exit i =>
      simp only [inBlockQ] at k4
      split at k4
      · rename_i hb
        simp only [beqN_iff] at hb
        refine ⟨.normal, S1, C1, σ1, k1.succ fun n hn => ?_, k2, k3, k4⟩
        show cxBody E.E (cx E.E n) (rd.map C.ids) (.block id b) S = _
        simp only [cxBody, hn, hb, Nat.beq_refl]
      · rename_i hb
        simp only [beqN_not] at hb
        refine ⟨.exit i, S1, C1, σ1, k1.succ fun n hn => ?_, k2, k3, k4⟩
        show cxBody E.E (cx E.E n) (rd.map C.ids) (.block id b) S = _
        have hne : Nat.beq i id = false := by
          cases he : Nat.beq i id with
          | true => exact absurd (Nat.eq_of_beq_eq_true he) hb
          | false => rfl
        simp only [cxBody, hn, hne]
  | .cond c a b, Q, σ, h => fun C S hS hlo hrd => by
    simp only [vcJ] at h
    split at h
    · exact h.out C S hS hlo hrd
    have hx := evR_ok hS.regs
    have go : ∀ (bb : Bool) (σ : St), Sim C σ S → lo ≤ σ.next → CX.evR S.regs c = some (.bool bb) → (match bb with | true => vcJ E rd lo ci js a Q σ | false => vcJ E rd lo ci js b Q σ) → ∃ e S' C' σ', Evt (fun n => cx E.E n (rd.map C.ids) (.cond c a b) S = some (e, S')) ∧ Sim C' σ' S' ∧ Ext lo C σ S C' σ' S' ∧ Q e σ' := by
      intro bb σ hS hlo hb h
      cases bb with
      | true =>
        obtain ⟨e, S1, C1, σ1, k1, k2, k3, k4⟩ := vcJ_ok hci js a Q σ h C S hS hlo hrd
        refine ⟨e, S1, C1, σ1, k1.succ fun n hn => ?_, k2, k3, k4⟩
        show cxBody E.E (cx E.E n) (rd.map C.ids) (.cond c a b) S = _
        simp only [cxBody, hb, hn]
      | false =>
        obtain ⟨e, S1, C1, σ1, k1, k2, k3, k4⟩ := vcJ_ok hci js b Q σ h C S hS hlo hrd
        refine ⟨e, S1, C1, σ1, k1.succ fun n hn => ?_, k2, k3, k4⟩
        show cxBody E.E (cx E.E n) (rd.map C.ids) (.cond c a b) S = _
        simp only [cxBody, hb, hn]
    have kn : ∀ bb, CX.evR S.regs c = some (.bool bb) → Sim C (knowO σ c bb) S ∧ lo ≤ (knowO σ c bb).next ∧ Ext lo C σ S C (knowO σ c bb) S := by
      intro bb hb
      unfold knowO
      split
      · exact ⟨⟨hS.nt, know_ok hS.regs hb, hS.m, hS.df, hS.dflt⟩, hlo, (MExt.refl _ _ _ _ _).less hlo, rfl, fun _ h => .inl h⟩
      · exact ⟨hS, hlo, Ext.refl _ _ _ hlo⟩
    split at h
    · rename_i he
      obtain ⟨v, v1, v2⟩ := hx.get he (by intro e; cases e)
      simp only [RvS] at v2
      subst v2
      exact go true σ hS hlo v1 h
    · rename_i he
      obtain ⟨v, v1, v2⟩ := hx.get he (by intro e; cases e)
      simp only [RvS] at v2
      subst v2
      exact go false σ hS hlo v1 h
    · rename_i p he
      obtain ⟨v, v1, v2⟩ := hx.get he (by intro e; cases e)
      simp only [RvS] at v2
      subst v2
      cases hp : p with
      | true => rw [hp] at v1; exact let ⟨e, S', C', σ', k1, k2, k3, k4⟩ := go true (knowO σ c true) (kn true v1).1 (kn true v1).2.1 v1 (h.t hp); ⟨e, S', C', σ', k1, k2, (kn true v1).2.2.trans k3, k4⟩
      | false => rw [hp] at v1; exact let ⟨e, S', C', σ', k1, k2, k3, k4⟩ := go false (knowO σ c false) (kn false v1).1 (kn false v1).2.1 v1 (h.e hp); ⟨e, S', C', σ', k1, k2, (kn false v1).2.2.trans k3, k4⟩
    · exact h.out.elim
  | .region id ops draw, Q, σ, h => by
    simp only [vcJ] at h
    split at h
    · exact h.out
    · exact vc_ok hE hci _ Q σ h
  | .skip, Q, σ, h => vc_ok hE hci _ Q σ h
  | .label _, Q, σ, h => vc_ok hE hci _ Q σ h
  | .ret, Q, σ, h => vc_ok hE hci _ Q σ h
  | .exit _, Q, σ, h => vc_ok hE hci _ Q σ h
  | .loop _, Q, σ, h => vc_ok hE hci _ Q σ h
  | .rangeFunc .., Q, σ, h => vc_ok hE hci _ Q σ h
  | .scope .., Q, σ, h => vc_ok hE hci _ Q σ h
  | .goto .., Q, σ, h => vc_ok hE hci _ Q σ h
  | .refuse .., Q, σ, h => vc_ok hE hci _ Q σ h
end

def killL (kl : List Nat) : List (Nat × SV) → List (Nat × SV)
  | [] => []
  | (t, v) :: r => match memB kl t with
    | true => killL kl r
    | false => (t, v) :: killL kl r
def killR (kl : List Nat) (σ : St) : St := ⟨σ.nt, killL kl σ.regs, σ.objs, σ.next, σ.df⟩

theorem joinB {E : Env} (hE : EnvOk E) {inl : Nat → Option Func} (hinl : ∀ f fn, inl f = some fn → E.E.fn f = some fn ∧ E.E.ext f = none) {rd : Option Nat} {lo : Nat} (n : Nat) (kl fz drop : List Nat) (names : List (Nat × List Nat)) {c : Code} {Q : Ex → St → Prop} {σ : St} {X : Type} (vals : X → List D) (J : X → Prop)
    (run : ∀ K : St → Prop, (∀ x σ', J x → subP lo (frzT fz σ') (updT E lo c (killR kl (frzT fz σ)) drop names (vals x)) → K σ') → vc E rd lo (ciN E inl n) c (thenQ K Q) σ)
    (cont : ∀ x, J x → Q .normal (updT E lo c (killR kl (frzT fz σ)) drop names (vals x))) : Leaf E.E rd lo c Q σ := by
  refine ⟨fun C S hS hlo hrd => ?_⟩
  obtain ⟨e, S1, C1, σ1, k1, k2, k3, k4⟩ := vc_ok hE (ciN_ok hE hinl n) c _ σ (run (fun σ' => ∃ x, J x ∧ Sub lo σ' (updT E lo c (killR kl (frzT fz σ)) drop names (vals x))) fun x σ' h1 h2 => ⟨x, h1, (subP_ok h2).frz fz⟩) C S hS hlo hrd
  cases e with
  | normal =>
    obtain ⟨x, hx, hs⟩ := k4
    obtain ⟨C2, s1, s2⟩ := hs _ C1 S1 k2 k3.m.le
    exact ⟨.normal, S1, C2, _, k1, s1, k3.trans s2, cont x hx⟩
  | ret => exact ⟨_, S1, C1, σ1, k1, k2, k3, k4⟩
  | exit i => exact ⟨_, S1, C1, σ1, k1, k2, k3, k4⟩

theorem loopBJ {E : Env} (hE : EnvOk E) (js : List Nat) {inl : Nat → Option Func} (hinl : ∀ f fn, inl f = some fn → E.E.fn f = some fn ∧ E.E.ext f = none) {rd : Option Nat} {lo : Nat} (n : Nat) (fz drop : List Nat) (names : List (Nat × List Nat)) {c : Code} {Q : Ex → St → Prop} {σ : St} {X : Type} (vals : X → List D) (Inv : X → Prop) (μ : X → Nat) (x0 : X) (h0 : Inv x0)
    (hs : subP lo (frzT fz σ) (updT E lo c (frzT fz σ) drop names (vals x0)))
    (round : ∀ x, Inv x → ∀ K : St → Prop, (∀ x' σ', Inv x' → μ x' < μ x → subP lo (frzT fz σ') (updT E lo c (frzT fz σ) drop names (vals x')) → K σ') → vcJ E rd lo (ciN E inl n) js c (endQ K Q) (updT E lo c (frzT fz σ) drop names (vals x))) :
    Leaf E.E rd lo (.loop c) Q σ := by
  refine ⟨loop_ok (fun x => updT E lo c (frzT fz σ) drop names (vals x)) Inv μ x0 h0 ((subP_ok hs).frz fz) (fun _ => updT_lo) fun x hx => ?_⟩
  have e : loopQ lo (fun x => updT E lo c (frzT fz σ) drop names (vals x)) Inv μ Q x = endQ (fun σ' => ∃ x', Inv x' ∧ μ x' < μ x ∧ Sub lo σ' (updT E lo c (frzT fz σ) drop names (vals x'))) Q := by
    funext e σ'
    cases e <;> rfl
  rw [e]
  exact vcJ_ok hE (ciN_ok hE hinl n) js c _ _ (round x hx _ fun x' σ' h1 h2 h3 => ⟨x', h1, h2, (subP_ok h3).frz fz⟩)

def fnVCJ (js : List Nat) (b0 n0 : Nat) (E : Env) (inl : Nat → Option Func) (n : Nat) (fn : Func) (sg : Sig) (r : Nat → Nat → D) (ds : List (List D)) : Prop :=
  match fn.body with
  | some c => match argsSV b0 sg.params ds with
    | some vs => match bleN vs.length fn.ntmps with
      | true => vcJ E none 0 (ciN E inl n) js c (retX E fn sg r) ⟨fn.ntmps, enterS 0 vs, [], n0, []⟩
      | false => False
    | none => False
  | none => False

theorem of_vcGJ {E : Env} (hE : EnvOk E) (js : List Nat) {inl : Nat → Option Func} (hinl : ∀ f fn, inl f = some fn → E.E.fn f = some fn ∧ E.E.ext f = none) (n : Nat) {f : Nat} {fn : Func} {sg : Sig} {pre : List (List D) → Prop} {res : List (List D) → Nat → Nat → D} (hf : E.E.fn f = some fn ∧ E.E.ext f = none)
    (b0 n0 : Nat) (hb0 : b0 ≤ n0) (h : allA sg.params fun ds => pre ds → fnVCJ js b0 n0 E inl n fn sg (res ds) ds) {ds : List (List D)} (hpre : pre ds) {g : Nat → Option O} {bar nx : Nat} {hp : T O} {args : List V} (C : Cx E.E.ro) (hCg : C.g = g) (hM : MSim C [] n0 bar hp.get nx)
    (hargs : ArgsFz E.E.ro C.g (C.bd b0) sg.params ds args) :
    ∃ (vs : List V) (h' : T O) (nx' : Nat) (g' : Nat → Option O), Evt (fun n => ∀ k, callF E.E (cx E.E n) bar hp nx f args k = k (CX.one vs) h' nx') ∧ nx ≤ nx' ∧ (∀ id, id < nx → h'.get id = hp.get id) ∧ (∀ id o, g id = some o → g' id = some o) ∧
      (∀ id o, g' id = some o → (id < nx' ∧ h'.get id = some o) ∧ (g id = some o ∨ nx ≤ id)) ∧ ResFz E.E.ro g' nx' (res ds) sg.results 0 vs := by
  subst hCg
  have hvc := allA_ok h hargs hpre
  unfold fnVCJ at hvc
  split at hvc
  · rename_i c hc
    split at hvc
    · rename_i vs hvs
      split at hvc
      · rename_i hle
        simp only [bleN_iff] at hle
        have hrel : RvSL C n0 vs args := argsSV_ok hb0 hvs hargs
        obtain ⟨t', t1, t2⟩ := enter_ok (C := C) (n := n0) _ _ 0 .e [] hrel (fun t s h => by simp [look] at h) (fun j s h => by simp [look] at h)
        obtain ⟨e, S', C', σ', k1, k2, k3, k4⟩ := vcJ_ok hE (ciN_ok hE hinl n) js (rd := none) (lo := 0) c _ _ hvc C ⟨fn.ntmps, bar, t', hp, nx, []⟩ ⟨rfl, fun j s hl => .inr (t2 j s hl), hM, .nil, fun d hd => by cases hd⟩ (Nat.zero_le _) (fun l hl => by cases hl)
        have none0 : ∀ id, ¬ OwnId C [] id := fun id h => by obtain ⟨_, _, hl, _⟩ := h; simp [look] at hl
        have fin : retRP E fn sg (res ds) σ' → (e = .normal ∨ e = .ret) → ∃ (vs : List V) (h' : T O) (nx' : Nat) (g' : Nat → Option O), Evt (fun n => ∀ k, callF E.E (cx E.E n) bar hp nx f args k = k (CX.one vs) h' nx') ∧ nx ≤ nx' ∧ (∀ id, id < nx → h'.get id = hp.get id) ∧ (∀ id o, C.g id = some o → g' id = some o) ∧
            (∀ id o, g' id = some o → (id < nx' ∧ h'.get id = some o) ∧ (C.g id = some o ∨ nx ≤ id)) ∧ ResFz E.E.ro g' nx' (res ds) sg.results 0 vs := by
          intro hr he
          unfold retRP at hr
          split at hr
          · rename_i objs ho
            split at hr
            · rename_i rs hrs
              unfold retD at hr
              split at hr
              · rename_i ds' hds
                obtain ⟨h', t1', t2', t3'⟩ := take_ok S'.df σ'.df σ'.objs objs S'.h ho k2.m k2.df k2.dflt
                obtain ⟨x, x1, x2⟩ := resAll_ok (σ := σ'.mem objs σ'.next) hE t2' k2.regs fn.results.toList hrs
                obtain ⟨C2, m2, e2⟩ := t2'.frzL rs
                have hA := argsD_ok (σ := σ'.mem (frzL objs rs) σ'.next) m2 (fun _ _ h => h) (fun e => by cases e) hds (RvSL.ag e2.ag (Nat.le_refl _) _ _ x1)
                have hext : MExt C [] 0 hp.get nx C2 (frzL objs rs) σ'.next h'.get S'.nx := yext (k3.m.took t3' (fun i hi => (k3.df i hi).resolve_left (by intro h; cases h))) (MExt.refl _ _ _ _ _) ((MExt.refl _ _ _ _ _).less (Nat.zero_le _)) e2
                have hbar' : S'.bar = bar := k3.bar
                refine ⟨x, h', S'.nx, C2.g, k1.mono fun n hn k => ?_, hext.nxle, fun id hid => hext.keep id hid (none0 id), fun id o hgo => hext.ag.g id o hgo, fun id o hgo => ⟨m2.fz id o hgo, ?_⟩, eqRes_ok (allP_ok _ hr) hA⟩
                · have hlen : Nat.ble (CX.len args) fn.ntmps = true := bleT (by rw [len_eq, hrel.length]; exact hle)
                  have hn' : cx E.E n none c ⟨fn.ntmps, bar, t', hp, nx, []⟩ = some (e, S') := hn
                  have hrun : outV (takeDf bar S'.df S'.h fun h => resultsX E.E S'.regs h fn.results.toList fun l => retV (CX.one l) h S'.nx) k = k (CX.one x) h' S'.nx := by
                    rw [← hbar', t1', x2]; rfl
                  simp only [callF, hf.1, hf.2, hc, hlen, t1, hn']
                  rcases he with rfl | rfl <;> exact hrun
                · rcases hext.g id o hgo with h | h | h
                  · exact .inl h
                  · exact absurd h (none0 id)
                  · exact .inr h
              · exact hr.out.elim
            · exact hr.out.elim
          · exact hr.out.elim
        cases e with
        | normal => exact fin k4 (.inl rfl)
        | ret => exact fin k4 (.inr rfl)
        | exit i => exact (StuckR.out k4).elim
      · exact hvc.elim
    · exact hvc.elim
  · exact hvc.elim
theorem PureC.of_vcJ {E : Env} (hE : EnvOk E) (js : List Nat) {inl : Nat → Option Func} (hinl : ∀ f fn, inl f = some fn → E.E.fn f = some fn ∧ E.E.ext f = none) (n : Nat) {f : Nat} {fn : Func} {sg : Sig} {pre : List (List D) → Prop} {res : List (List D) → Nat → Nat → D} (hf : E.E.fn f = some fn ∧ E.E.ext f = none)
    (h : allA sg.params fun ds => pre ds → fnVCJ js 1 1 E inl n fn sg (res ds) ds) : PureC E.E f sg pre res := by
  intro ds hpre g bar nx hp args hg hbar hargs
  refine of_vcGJ hE js hinl n hf 1 1 (Nat.le_refl _) h hpre (bar := bar) ⟨fun _ => 0, fun _ => .nils, g, fun b => if b = 0 then 0 else nx⟩ rfl ?_ hargs
  exact ⟨fun _ _ h => by simp [look] at h, fun _ _ h => by simp [look] at h, fun _ _ h => by simp [look] at h, fun _ _ _ _ h => by simp [look] at h, hg, fun b _ => by show (if b = 0 then 0 else nx) ≤ nx; split <;> omega, rfl, hbar, rfl⟩

theorem PureC0.of_vcJ {E : Env} (hE : EnvOk E) (js : List Nat) {inl : Nat → Option Func} (hinl : ∀ f fn, inl f = some fn → E.E.fn f = some fn ∧ E.E.ext f = none) (n : Nat) {f : Nat} {fn : Func} {sg : Sig} {pre : List (List D) → Prop} {res : List (List D) → Nat → Nat → D} (hf : E.E.fn f = some fn ∧ E.E.ext f = none)
    (h : allA sg.params fun ds => pre ds → fnVCJ js 0 0 E inl n fn sg (res ds) ds) : PureC0 E.E f sg pre res := by
  intro ds hpre args hargs
  obtain ⟨vs, h', nx', g', c1, _, _, _, _, c6⟩ := of_vcGJ hE js hinl n hf 0 0 (Nat.le_refl _) h hpre (bar := 0) (hp := .e) (nx := 0) ⟨fun _ => 0, fun _ => .nils, fun _ => none, fun _ => 0⟩ rfl
    ⟨fun _ _ h => by simp [look] at h, fun _ _ h => by simp [look] at h, fun _ _ h => by simp [look] at h, fun _ _ _ _ h => by simp [look] at h, fun _ _ h => (by cases h), fun _ _ => Nat.le_refl _, rfl, Nat.le_refl _, rfl⟩ hargs
  exact ⟨vs, h', nx', g', c1, c6⟩
end HX
