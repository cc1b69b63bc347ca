/-
  Texts of the executors: CxFn, CxWorks, HxTab, HxC, HxLib, V9.
-/
import Derived.Test.YtmnaiddobipclaaSensePacked6
import Derived.KernelRfl
set_option linter.all false
namespace CX
open Go Go.Proofs
theorem fnT_ok : T.All (fun f fn => Try.prog.funcs[f]? = some fn) fnT id := (And.intro (And.intro (And.intro (And.intro (And.intro (And.intro (And.intro trivial (And.intro Try.func63 trivial)) (And.intro Try.func31 (And.intro trivial (And.intro Try.func95 trivial)))) (And.intro Try.func15 (And.intro (And.intro trivial (And.intro Try.func79 trivial)) (And.intro Try.func47 (And.intro trivial (And.intro Try.func111 trivial)))))) (And.intro Try.func7 (And.intro (And.intro (And.intro trivial (And.intro Try.func71 trivial)) (And.intro Try.func39 (And.intro trivial (And.intro Try.func103 trivial)))) (And.intro Try.func23 (And.intro (And.intro trivial (And.intro Try.func87 trivial)) (And.intro Try.func55 trivial)))))) (And.intro Try.func3 (And.intro (And.intro (And.intro (And.intro trivial (And.intro Try.func67 trivial)) (And.intro Try.func35 (And.intro trivial (And.intro Try.func99 trivial)))) (And.intro Try.func19 (And.intro (And.intro trivial (And.intro Try.func83 trivial)) (And.intro Try.func51 (And.intro trivial (And.intro Try.func115 trivial)))))) (And.intro Try.func11 (And.intro (And.intro (And.intro trivial (And.intro Try.func75 trivial)) (And.intro Try.func43 (And.intro trivial (And.intro Try.func107 trivial)))) (And.intro Try.func27 (And.intro (And.intro trivial (And.intro Try.func91 trivial)) (And.intro Try.func59 trivial)))))))) (And.intro trivial (And.intro (And.intro (And.intro (And.intro (And.intro trivial (And.intro Try.func65 trivial)) (And.intro Try.func33 (And.intro trivial (And.intro Try.func97 trivial)))) (And.intro Try.func17 (And.intro (And.intro trivial (And.intro Try.func81 trivial)) (And.intro Try.func49 (And.intro trivial (And.intro Try.func113 trivial)))))) (And.intro Try.func9 (And.intro (And.intro (And.intro trivial (And.intro Try.func73 trivial)) (And.intro Try.func41 (And.intro trivial (And.intro Try.func105 trivial)))) (And.intro Try.func25 (And.intro (And.intro trivial (And.intro Try.func89 trivial)) (And.intro Try.func57 trivial)))))) (And.intro Try.func5 (And.intro (And.intro (And.intro (And.intro trivial (And.intro Try.func69 trivial)) (And.intro Try.func37 (And.intro trivial (And.intro Try.func101 trivial)))) (And.intro Try.func21 (And.intro (And.intro trivial (And.intro Try.func85 trivial)) (And.intro Try.func53 (And.intro trivial (And.intro Try.func117 trivial)))))) (And.intro Try.func13 (And.intro (And.intro (And.intro trivial (And.intro Try.func77 trivial)) (And.intro Try.func45 (And.intro trivial (And.intro Try.func109 trivial)))) (And.intro Try.func29 (And.intro (And.intro trivial (And.intro Try.func93 trivial)) (And.intro Try.func61 trivial)))))))))) (And.intro trivial (And.intro (And.intro (And.intro (And.intro (And.intro (And.intro trivial (And.intro Try.func64 trivial)) (And.intro Try.func32 (And.intro trivial (And.intro Try.func96 trivial)))) (And.intro Try.func16 (And.intro (And.intro trivial (And.intro Try.func80 trivial)) (And.intro Try.func48 (And.intro trivial (And.intro Try.func112 trivial)))))) (And.intro Try.func8 (And.intro (And.intro (And.intro trivial (And.intro Try.func72 trivial)) (And.intro Try.func40 (And.intro trivial (And.intro Try.func104 trivial)))) (And.intro Try.func24 (And.intro (And.intro trivial (And.intro Try.func88 trivial)) (And.intro Try.func56 trivial)))))) (And.intro Try.func4 (And.intro (And.intro (And.intro (And.intro trivial (And.intro Try.func68 trivial)) (And.intro Try.func36 (And.intro trivial (And.intro Try.func100 trivial)))) (And.intro Try.func20 (And.intro (And.intro trivial (And.intro Try.func84 trivial)) (And.intro Try.func52 (And.intro trivial (And.intro Try.func116 trivial)))))) (And.intro Try.func12 (And.intro (And.intro (And.intro trivial (And.intro Try.func76 trivial)) (And.intro Try.func44 (And.intro trivial (And.intro Try.func108 trivial)))) (And.intro Try.func28 (And.intro (And.intro trivial (And.intro Try.func92 trivial)) (And.intro Try.func60 trivial)))))))) (And.intro Try.func2 (And.intro (And.intro (And.intro (And.intro (And.intro trivial (And.intro Try.func66 trivial)) (And.intro Try.func34 (And.intro trivial (And.intro Try.func98 trivial)))) (And.intro Try.func18 (And.intro (And.intro trivial (And.intro Try.func82 trivial)) (And.intro Try.func50 (And.intro trivial (And.intro Try.func114 trivial)))))) (And.intro Try.func10 (And.intro (And.intro (And.intro trivial (And.intro Try.func74 trivial)) (And.intro Try.func42 (And.intro trivial (And.intro Try.func106 trivial)))) (And.intro Try.func26 (And.intro (And.intro trivial (And.intro Try.func90 trivial)) (And.intro Try.func58 trivial)))))) (And.intro Try.func6 (And.intro (And.intro (And.intro (And.intro trivial (And.intro Try.func70 trivial)) (And.intro Try.func38 (And.intro trivial (And.intro Try.func102 trivial)))) (And.intro Try.func22 (And.intro (And.intro trivial (And.intro Try.func86 trivial)) (And.intro Try.func54 (And.intro trivial (And.intro Try.func118 trivial)))))) (And.intro Try.func14 (And.intro (And.intro (And.intro trivial (And.intro Try.func78 trivial)) (And.intro Try.func46 (And.intro trivial (And.intro Try.func110 trivial)))) (And.intro Try.func30 (And.intro (And.intro trivial (And.intro Try.func94 trivial)) (And.intro Try.func62 trivial))))))))))))
end CX

namespace CX
open Go Go.Proofs
theorem names_ok : T.allB (fun fn : Func => fn.name != "runtime.NumGoroutine") fnT = true := by kernel_rfl
theorem types_ok : tabChk Try.prog env.T 184 = true := by kernel_rfl
theorem env_ok : EnvOk env Try.prog := by
 refine ⟨fun t ty h => ?_, fun f fn h => ?_, by kernel_rfl, fun _ _ h => (by cases h), fun _ _ _ _ _ _ _ h => (by cases h), fun _ h => by cases h⟩
 ·refine tabChk_ok 184 types_ok t ty ?_ h
  simp only [env] at h
  split at h
  ·rename_i hb; simpa [Nat.blt_eq] using hb
  ·cases h
 ·refine ⟨T.All.get fnT id fnT_ok f fn h, ?_⟩
  have := T.All.get fnT id (T.allB_ok fnT id names_ok) f fn h
  simpa using this
theorem works_run : callF env (cx env 1000) 0 .e 0 13 [] (fun v _ _ => retV v .e 0) = some (.normal, ⟨0, 0, .n .e (some (.bool true)) .e, .e, 0, []⟩) := by kernel_rfl
theorem works_ok (w : World) : Calls Try.prog 13 #[] w fun e w' => e = .returned (.bool true) ∧ Kept w w' := by
 refine (cx_call env_ok (fun _ => rfl) (xs := []) (by simp [RvL]) works_run w).mono fun e w' he => ?_
 obtain ⟨u, ρ, n, rfl, h, rest⟩ := he
 simp only [Rv] at h
 subst h
 exact ⟨rfl, rest⟩
end CX

namespace HX
open Go Go.Proofs
noncomputable def tyB : BT CX.Ty := (.n (.n (.n (.n (.n (.n (.n (.n .e 1 CX.ty1 .e) 2 CX.ty2 .e) 3 CX.ty3 (.n (.n .e 4 CX.ty4 .e) 5 CX.ty5 .e)) 6 CX.ty6 (.n (.n (.n .e 7 CX.ty7 .e) 8 CX.ty8 .e) 9 CX.ty9 (.n (.n .e 10 CX.ty10 .e) 11 CX.ty11 .e))) 12 CX.ty12 (.n (.n (.n (.n .e 13 CX.ty13 .e) 14 CX.ty14 .e) 15 CX.ty15 (.n (.n .e 16 CX.ty16 .e) 17 CX.ty17 .e)) 18 CX.ty18 (.n (.n (.n .e 19 CX.ty19 .e) 20 CX.ty20 .e) 21 CX.ty21 (.n .e 22 CX.ty22 .e)))) 23 CX.ty23 (.n (.n (.n (.n (.n .e 24 CX.ty24 .e) 25 CX.ty25 .e) 26 CX.ty26 (.n (.n .e 27 CX.ty27 .e) 28 CX.ty28 .e)) 30 CX.ty30 (.n (.n (.n .e 31 CX.ty31 .e) 32 CX.ty32 .e) 33 CX.ty33 (.n .e 34 CX.ty34 .e))) 36 CX.ty36 (.n (.n (.n (.n .e 37 CX.ty37 .e) 38 CX.ty38 .e) 39 CX.ty39 (.n (.n .e 40 CX.ty40 .e) 41 CX.ty41 .e)) 42 CX.ty42 (.n (.n (.n .e 43 CX.ty43 .e) 44 CX.ty44 .e) 45 CX.ty45 (.n .e 46 CX.ty46 .e))))) 47 CX.ty47 (.n (.n (.n (.n (.n (.n .e 48 CX.ty48 .e) 49 CX.ty49 .e) 50 CX.ty50 (.n (.n .e 51 CX.ty51 .e) 52 CX.ty52 .e)) 53 CX.ty53 (.n (.n (.n .e 55 CX.ty55 .e) 56 CX.ty56 .e) 57 CX.ty57 (.n .e 58 CX.ty58 .e))) 59 CX.ty59 (.n (.n (.n (.n .e 60 CX.ty60 .e) 61 CX.ty61 .e) 62 CX.ty62 (.n (.n .e 63 CX.ty63 .e) 64 CX.ty64 .e)) 65 CX.ty65 (.n (.n (.n .e 66 CX.ty66 .e) 67 CX.ty67 .e) 68 CX.ty68 (.n .e 69 CX.ty69 .e)))) 70 CX.ty70 (.n (.n (.n (.n (.n .e 71 CX.ty71 .e) 72 CX.ty72 .e) 73 CX.ty73 (.n (.n .e 74 CX.ty74 .e) 75 CX.ty75 .e)) 76 CX.ty76 (.n (.n (.n .e 77 CX.ty77 .e) 78 CX.ty78 .e) 79 CX.ty79 (.n .e 80 CX.ty80 .e))) 81 CX.ty81 (.n (.n (.n (.n .e 82 CX.ty82 .e) 83 CX.ty83 .e) 84 CX.ty84 (.n (.n .e 85 CX.ty85 .e) 86 CX.ty86 .e)) 87 CX.ty87 (.n (.n (.n .e 88 CX.ty88 .e) 89 CX.ty89 .e) 90 CX.ty90 (.n .e 91 CX.ty91 .e)))))) 92 CX.ty92 (.n (.n (.n (.n (.n (.n (.n .e 93 CX.ty93 .e) 94 CX.ty94 .e) 95 CX.ty95 (.n (.n .e 96 CX.ty96 .e) 97 CX.ty97 .e)) 98 CX.ty98 (.n (.n (.n .e 99 CX.ty99 .e) 100 CX.ty100 .e) 101 CX.ty101 (.n (.n .e 103 CX.ty103 .e) 104 CX.ty104 .e))) 105 CX.ty105 (.n (.n (.n (.n .e 106 CX.ty106 .e) 107 CX.ty107 .e) 108 CX.ty108 (.n (.n .e 109 CX.ty109 .e) 110 CX.ty110 .e)) 111 CX.ty111 (.n (.n (.n .e 112 CX.ty112 .e) 113 CX.ty113 .e) 115 CX.ty115 (.n .e 116 CX.ty116 .e)))) 117 CX.ty117 (.n (.n (.n (.n (.n .e 118 CX.ty118 .e) 119 CX.ty119 .e) 120 CX.ty120 (.n (.n .e 121 CX.ty121 .e) 122 CX.ty122 .e)) 123 CX.ty123 (.n (.n (.n .e 124 CX.ty124 .e) 125 CX.ty125 .e) 126 CX.ty126 (.n .e 127 CX.ty127 .e))) 128 CX.ty128 (.n (.n (.n (.n .e 129 CX.ty129 .e) 130 CX.ty130 .e) 131 CX.ty131 (.n (.n .e 132 CX.ty132 .e) 133 CX.ty133 .e)) 134 CX.ty134 (.n (.n (.n .e 135 CX.ty135 .e) 136 CX.ty136 .e) 137 CX.ty137 (.n .e 138 CX.ty138 .e))))) 139 CX.ty139 (.n (.n (.n (.n (.n (.n .e 140 CX.ty140 .e) 141 CX.ty141 .e) 142 CX.ty142 (.n (.n .e 143 CX.ty143 .e) 144 CX.ty144 .e)) 145 CX.ty145 (.n (.n (.n .e 146 CX.ty146 .e) 147 CX.ty147 .e) 148 CX.ty148 (.n .e 149 CX.ty149 .e))) 150 CX.ty150 (.n (.n (.n (.n .e 151 CX.ty151 .e) 152 CX.ty152 .e) 154 CX.ty154 (.n (.n .e 155 CX.ty155 .e) 156 CX.ty156 .e)) 157 CX.ty157 (.n (.n (.n .e 158 CX.ty158 .e) 159 CX.ty159 .e) 160 CX.ty160 (.n .e 161 CX.ty161 .e)))) 162 CX.ty162 (.n (.n (.n (.n (.n .e 163 CX.ty163 .e) 164 CX.ty164 .e) 165 CX.ty165 (.n (.n .e 166 CX.ty166 .e) 167 CX.ty167 .e)) 168 CX.ty168 (.n (.n (.n .e 169 CX.ty169 .e) 170 CX.ty170 .e) 171 CX.ty171 (.n .e 172 CX.ty172 .e))) 173 CX.ty173 (.n (.n (.n (.n .e 174 CX.ty174 .e) 175 CX.ty175 .e) 176 CX.ty176 (.n (.n .e 177 CX.ty177 .e) 178 CX.ty178 .e)) 179 CX.ty179 (.n (.n (.n .e 180 CX.ty180 .e) 181 CX.ty181 .e) 182 CX.ty182 (.n .e 183 CX.ty183 .e)))))))
def ksB : BT (List Kd) := (.n (.n (.n (.n (.n (.n .e 2 [.int .i64] .e) 3 [.int .i64] (.n .e 4 [.bool] .e)) 5 [.int .u8] (.n (.n .e 6 [.int .u8] .e) 7 [.int .i64, .int .i64, .bool, .int .u8] .e)) 8 [.int .i64, .int .i64, .bool, .int .u8] (.n (.n (.n .e 9 [.str] .e) 10 [.str] (.n .e 11 [.str] .e)) 12 [.int .u64] (.n (.n .e 13 [.str, .int .u64] .e) 14 [.str, .int .u64] .e))) 21 [.int .i32] (.n (.n (.n (.n .e 22 [.int .i64, .int .i64, .int .i64] .e) 23 [.int .i64, .int .i64, .int .i64] (.n .e 24 [.sl [.sl [.int .i64]]] .e)) 25 [.sl [.int .i64]] (.n (.n .e 26 [.sl [.int .i64, .int .i64]] .e) 28 [.int .i64] .e)) 31 [.int .i64, .int .i64, .int .i64] (.n (.n (.n .e 42 [.int .i64, .int .i64] .e) 43 [.int .i64, .int .i64] (.n .e 44 [.int .i64, .int .i64] .e)) 45 [.int .i64, .int .i64] (.n (.n .e 47 [.int .i64, .int .i64] .e) 50 [.int .i64, .int .i64] .e)))) 53 [.sl [.int .u8]] (.n (.n (.n (.n (.n .e 64 [.int .i64, .int .i64] .e) 65 [.int .i64, .int .i64] (.n .e 67 [.int .u16] .e)) 68 [.sl [.int .i16]] (.n (.n .e 69 [.int .i16] .e) 72 [.sl [.int .u32, .int .u32]] .e)) 73 [.int .u32] (.n (.n (.n .e 84 [.bool, .sl [.int .i64, .int .i64]] .e) 85 [.bool, .sl [.int .i64, .int .i64]] (.n .e 107 [.int .u64] .e)) 110 [.int .i64, .int .i64] (.n (.n .e 111 [.int .i64, .int .i64] .e) 116 [.int .u8, .int .u8] .e))) 120 [.int .i64, .int .i64] (.n (.n (.n (.n .e 121 [.int .i64, .int .i64] .e) 127 [.sl [.int .u8], .int .i64, .bool] (.n .e 128 [.sl [.int .u8], .int .i64, .bool] .e)) 130 [.sl [.sl [.int .i64, .int .i64]]] (.n (.n .e 137 [.int .u32, .int .u32] .e) 152 [.int .i64] .e)) 160 [.int .u64] (.n (.n (.n .e 161 [.int .u64] .e) 175 [.int .u8] .e) 176 [.int .u8] (.n (.n .e 179 [.int .i32] .e) 180 [.int .i32] .e)))))
end HX

namespace HX
open Go Go.Proofs CX
noncomputable def tyF (t : Nat) : Option CX.Ty := tyB.get t
def ksF (t : Nat) : Option (List Kd) := ksB.get t
noncomputable def fnF (f : Nat) : Option Func := CX.env.fn f
def extF (f : Nat) : Option CX.Ext := match beqN f 13 with
 | true => some (.bool true)
 | false => none
noncomputable def cxE (ro : Addr → Option V) : CX.Env := ⟨tyF, fnF, extF, ro⟩
structure Ctr where
 f : Nat
 sg : Sig
 pre : List (List D) → Prop
 res : List (List D) → Nat → Nat → D
def inlL (l : List (Nat × Func)) (f : Nat) : Option Func := look l f
def sigL (l : List (Nat × Sig)) (f : Nat) : Option Sig := look l f
def sigs (l : List Ctr) : List (Nat × Sig) := l.map fun c => (c.f, c.sg)
def ctrOf : List Ctr → Nat → Option Ctr
 | [], _ => none
 | c :: r, f => if c.f = f then some c else ctrOf r f
def preOf (l : List Ctr) (f : Nat) (ds : List (List D)) : Prop := match ctrOf l f with
 | some c => c.pre ds
 | none => False
def resOf (l : List Ctr) (f : Nat) (ds : List (List D)) : Nat → Nat → D := match ctrOf l f with
 | some c => c.res ds
 | none => fun _ _ => .nil
end HX

namespace HX
open Go Go.Proofs CX
inductive Inls (E : CX.Env) : List (Nat × Func) → Prop
 | nil : Inls E []
 | cons {f : Nat} {fn : Func} {l : List (Nat × Func)} (h : E.fn f = some fn) (h' : E.ext f = none) (r : Inls E l) : Inls E ((f, fn) :: l)
theorem Inls.ok {E : CX.Env} : ∀ {l : List (Nat × Func)}, Inls E l → ∀ f fn, inlL l f = some fn → E.fn f = some fn ∧ E.ext f = none
 | [], _, f, fn, h => by simp [inlL, look] at h
 | (g, gn) :: l, .cons h1 h2 r, f, fn, h => by
  unfold inlL at h
  rw [look_cons] at h
  split at h
  ·rename_i e
   simp only [Option.some.injEq] at h
   subst e h
   exact ⟨h1, h2⟩
  ·exact r.ok f fn h
def mxI (x y : Int) : Int := if x < y then y else x
theorem dt {p : Prop} [d : Decidable p] (h : decide p = true) : p := of_decide_eq_true h
theorem df {p : Prop} [d : Decidable p] (h : decide p = false) : ¬ p := of_decide_eq_false h
theorem nt {b : Bool} (h : (!b) = true) : b = false := by simpa using h
theorem nf {b : Bool} (h : (!b) = false) : b = true := by simpa using h
theorem and_t {a b : Bool} (h : (a && b) = true) : a = true ∧ b = true := by simpa using h
theorem and_f {a b : Bool} (h : (a && b) = false) : a = false ∨ b = false := by cases a <;> cases b <;> simp_all
end HX

namespace HX
open Go Go.Proofs CX
abbrev v9Z (x : Int) := -9223372036854775808 ≤ x ∧ x ≤ 9223372036854775807
abbrev v9a (fn : Nat → List (List D) → Nat → Nat → D) (a0 : Rows) (a1 : Int) := (D.rows (fn 27 [[D.l (D.rows (fn 38 [[D.l a0], [D.i (Int.tmod a1 268435456)]] 0 0))]] 0 0))
noncomputable abbrev v9b (fn : Nat → List (List D) → Nat → Nat → D) (a0 : Rows) (a1 : Int) (a2 : Int) (a3 : Int) := (List.set ([] ++ (v9a fn a0 a1)) (Int.toNat (Int.tmod a2 ((((v9a fn a0 a1)).length : Int)))) [D.i (Ar.std.wrap IntKind.u8 ((D.int (gt ([] ++ (v9a fn a0 a1)) (Int.toNat (Int.tmod a2 ((((v9a fn a0 a1)).length : Int)))) 0)) + a3))])
abbrev v9c (fn : Nat → List (List D) → Nat → Nat → D) (a0 : Rows) (a1 : Int) := (D.rows (fn 38 [[D.l a0], [D.i (Int.tmod a1 268435456)]] 0 0))
abbrev v9d (a2 : Int) (fn : Nat → List (List D) → Nat → Nat → D) (a0 : Rows) (a1 : Int) := (List.take (Int.toNat (Int.tmod a2 ((((v9a fn a0 a1)).length : Int)))) (List.drop 0 (v9a fn a0 a1)))
abbrev v9e (fn : Nat → List (List D) → Nat → Nat → D) (a0 : Rows) (a1 : Int) := (D.boo (fn 17 [[D.l (D.rows (fn 29 [[D.l (v9a fn a0 a1)]] 0 0))], [D.l (v9c fn a0 a1)]] 0 0) = true)
abbrev v9f (fn : Nat → List (List D) → Nat → Nat → D) (a0 : Rows) (a1 : Int) := ((((v9a fn a0 a1)).length : Int))
abbrev v9g (fn : Nat → List (List D) → Nat → Nat → D) (a0 : Rows) (a1 : Int) := (¬ ((14 * ((((v9c fn a0 a1)).length : Int))) + 8) < (v9f fn a0 a1))
noncomputable abbrev v9h (fn : Nat → List (List D) → Nat → Nat → D) (a0 : Rows) (a1 : Int) (a2 : Int) (a3 : Int) := (¬ (Int.tmod (D.int (gt (v9b fn a0 a1 a2 a3) (Int.toNat (Int.tmod a2 (v9f fn a0 a1))) 0)) 255) = (Int.tmod (D.int (gt (v9a fn a0 a1) (Int.toNat (Int.tmod a2 (v9f fn a0 a1))) 0)) 255))
abbrev v9i (fn : Nat → List (List D) → Nat → Nat → D) (a0 : Rows) (a1 : Int) := ((D.int (fn 27 [[D.l (v9c fn a0 a1)]] 1 0)) = 0)
abbrev v9j (fn : Nat → List (List D) → Nat → Nat → D) (a0 : Rows) (a1 : Int) := ((D.int (fn 29 [[D.l (v9a fn a0 a1)]] 1 0)) = 0)
abbrev v9k (fn : Nat → List (List D) → Nat → Nat → D) (a2 : Int) (a0 : Rows) (a1 : Int) := (¬ (D.int (fn 29 [[D.l (v9d a2 fn a0 a1)]] 1 0)) = 0)
noncomputable abbrev v9l (fn : Nat → List (List D) → Nat → Nat → D) (a0 : Rows) (a1 : Int) (a2 : Int) (a3 : Int) := ((Int.tmod (D.int (gt (v9b fn a0 a1 a2 a3) (Int.toNat (Int.tmod a2 (v9f fn a0 a1))) 0)) 255) = (Int.tmod (D.int (gt (v9a fn a0 a1) (Int.toNat (Int.tmod a2 (v9f fn a0 a1))) 0)) 255))
abbrev v9m (fn : Nat → List (List D) → Nat → Nat → D) (a0 : Rows) (a1 : Int) (a2 : Int) := (¬ (D.int (fn 29 [[D.l (([] ++ (v9a fn a0 a1)) ++ (v9d a2 fn a0 a1))]] 1 0)) = 0)
abbrev v9n (a0 : Rows) := (¬ 100 < (a0.length : Int))
noncomputable abbrev v9o (fn : Nat → List (List D) → Nat → Nat → D) (a0 : Rows) (a1 : Int) (a2 : Int) (a3 : Int) := (D.int (fn 29 [[D.l (v9b fn a0 a1 a2 a3)]] 1 0))
noncomputable abbrev v9p (fn : Nat → List (List D) → Nat → Nat → D) (a0 : Rows) (a1 : Int) (a2 : Int) (a3 : Int) := (D.int (fn 27 [[D.l (D.rows (fn 29 [[D.l (v9b fn a0 a1 a2 a3)]] 0 0))]] 1 0))
noncomputable abbrev v9q (fn : Nat → List (List D) → Nat → Nat → D) (a0 : Rows) (a1 : Int) (a2 : Int) (a3 : Int) := (D.rows (fn 27 [[D.l (D.rows (fn 29 [[D.l (v9b fn a0 a1 a2 a3)]] 0 0))]] 0 0))
abbrev v9r (a2 : Int) (fn : Nat → List (List D) → Nat → Nat → D) (a0 : Rows) (a1 : Int) := (Int.tmod a2 (v9f fn a0 a1))
noncomputable abbrev v9s (fn : Nat → List (List D) → Nat → Nat → D) (a0 : Rows) (a1 : Int) (a2 : Int) (a3 : Int) := ((Ar.std.strD (v9q fn a0 a1 a2 a3)) = (Ar.std.strD (v9b fn a0 a1 a2 a3)))
abbrev v9t (a2 : Int) (fn : Nat → List (List D) → Nat → Nat → D) (a0 : Rows) (a1 : Int) := (¬ 0 < (v9r a2 fn a0 a1))
abbrev v9A (fn : Nat → List (List D) → Nat → Nat → D) (a0 : Rows) (a1 a2 : Int) (p : Prop) : Prop := (v9n a0) → (v9i fn a0 a1) → (v9g fn a0 a1) → (¬ (v9f fn a0 a1) < 7) → (v9j fn a0 a1) → (v9e fn a0 a1) → (v9k fn a2 a0 a1) → p
abbrev v9B (fn : Nat → List (List D) → Nat → Nat → D) (a0 : Rows) (a1 a2 : Int) (p : Prop) : Prop := v9A fn a0 a1 a2 ((0 < (v9r a2 fn a0 a1)) → (v9m fn a0 a1 a2) → p)
abbrev v9C (fn : Nat → List (List D) → Nat → Nat → D) (a0 : Rows) (a1 a2 : Int) (p : Prop) : Prop := v9A fn a0 a1 a2 ((v9t a2 fn a0 a1) → p)
structure V9 (pre : Nat → List (List D) → Prop) (fn : Nat → List (List D) → Nat → Nat → D) (a0 : Rows) (a1 : Int) (a2 : Int) (a3 : Int) (R : Nat → Nat → D)  : Prop where
 g0 : (100 < (a0.length : Int)) → pre 13 []
 g1 : (100 < (a0.length : Int)) → R 0 0 = D.b (D.boo (fn 13 [] 0 0))
 g2 : (v9n a0) → (268435456 : Int) ≠ 0
 g3 : (v9n a0) → pre 38 [[D.l a0], [D.i (Int.tmod a1 268435456)]]
 g4 : (v9n a0) → pre 27 [[D.l (v9c fn a0 a1)]]
 g5 : (v9n a0) → (¬ (D.int (fn 27 [[D.l (v9c fn a0 a1)]] 1 0)) = 0) → R 0 0 = D.b false
 g6 : (v9n a0) → (v9i fn a0 a1) → v9Z ((14 * ((((v9c fn a0 a1)).length : Int))))
 g7 : (v9n a0) → (v9i fn a0 a1) → v9Z (((14 * ((((v9c fn a0 a1)).length : Int))) + 8))
 g8 : (v9n a0) → (v9i fn a0 a1) → (((14 * ((((v9c fn a0 a1)).length : Int))) + 8) < (v9f fn a0 a1)) → R 0 0 = D.b false
 g9 : (v9n a0) → (v9i fn a0 a1) → (v9g fn a0 a1) → ((v9f fn a0 a1) < 7) → R 0 0 = D.b false
 g10 : (v9n a0) → (v9i fn a0 a1) → (v9g fn a0 a1) → (¬ (v9f fn a0 a1) < 7) → pre 29 [[D.l (v9a fn a0 a1)]]
 g11 : (v9n a0) → (v9i fn a0 a1) → (v9g fn a0 a1) → (¬ (v9f fn a0 a1) < 7) → (¬ (D.int (fn 29 [[D.l (v9a fn a0 a1)]] 1 0)) = 0) → R 0 0 = D.b false
 g12 : (v9n a0) → (v9i fn a0 a1) → (v9g fn a0 a1) → (¬ (v9f fn a0 a1) < 7) → (v9j fn a0 a1) → pre 17 [[D.l (D.rows (fn 29 [[D.l (v9a fn a0 a1)]] 0 0))], [D.l (v9c fn a0 a1)]]
 g13 : (v9n a0) → (v9i fn a0 a1) → (v9g fn a0 a1) → (¬ (v9f fn a0 a1) < 7) → (v9j fn a0 a1) → (D.boo (fn 17 [[D.l (D.rows (fn 29 [[D.l (v9a fn a0 a1)]] 0 0))], [D.l (v9c fn a0 a1)]] 0 0) = false) → R 0 0 = D.b false
 g14 : (v9n a0) → (v9i fn a0 a1) → (v9g fn a0 a1) → (¬ (v9f fn a0 a1) < 7) → (v9j fn a0 a1) → (v9e fn a0 a1) → v9Z (a2)
 g15 : (v9n a0) → (v9i fn a0 a1) → (v9g fn a0 a1) → (¬ (v9f fn a0 a1) < 7) → (v9j fn a0 a1) → (v9e fn a0 a1) → (v9f fn a0 a1) ≠ 0
 g16 : (v9n a0) → (v9i fn a0 a1) → (v9g fn a0 a1) → (¬ (v9f fn a0 a1) < 7) → (v9j fn a0 a1) → (v9e fn a0 a1) → 0 ≤ (v9r a2 fn a0 a1)
 g17 : (v9n a0) → (v9i fn a0 a1) → (v9g fn a0 a1) → (¬ (v9f fn a0 a1) < 7) → (v9j fn a0 a1) → (v9e fn a0 a1) → (v9r a2 fn a0 a1) ≤ (v9f fn a0 a1)
 g18 : (v9n a0) → (v9i fn a0 a1) → (v9g fn a0 a1) → (¬ (v9f fn a0 a1) < 7) → (v9j fn a0 a1) → (v9e fn a0 a1) → pre 29 [[D.l (v9d a2 fn a0 a1)]]
 g19 : (v9n a0) → (v9i fn a0 a1) → (v9g fn a0 a1) → (¬ (v9f fn a0 a1) < 7) → (v9j fn a0 a1) → (v9e fn a0 a1) → ((D.int (fn 29 [[D.l (v9d a2 fn a0 a1)]] 1 0)) = 0) → R 0 0 = D.b false
 g20 : v9A fn a0 a1 a2 (((List.length ([] : Rows)) + (List.length ((v9a fn a0 a1) : Rows))) * 1 ≤ 4294967296 ∧ ((List.length ([] : Rows)) + (List.length ((v9a fn a0 a1) : Rows))) ≤ 4294967296)
 g21 : v9A fn a0 a1 a2 (0 ≤ (v9r a2 fn a0 a1))
 g22 : v9A fn a0 a1 a2 ((v9r a2 fn a0 a1) ≤ (v9f fn a0 a1))
 g23 : v9A fn a0 a1 a2 (((List.length (([] ++ (v9a fn a0 a1)) : Rows)) + (List.length ((v9d a2 fn a0 a1) : Rows))) * 1 ≤ 4294967296 ∧ ((List.length (([] ++ (v9a fn a0 a1)) : Rows)) + (List.length ((v9d a2 fn a0 a1) : Rows))) ≤ 4294967296)
 g24 : v9A fn a0 a1 a2 (pre 29 [[D.l (([] ++ (v9a fn a0 a1)) ++ (v9d a2 fn a0 a1))]])
 g25 : v9A fn a0 a1 a2 ((0 < (v9r a2 fn a0 a1)) → ((D.int (fn 29 [[D.l (([] ++ (v9a fn a0 a1)) ++ (v9d a2 fn a0 a1))]] 1 0)) = 0) → R 0 0 = D.b false)
 g26 : v9B fn a0 a1 a2 (((List.length ([] : Rows)) + (List.length ((v9a fn a0 a1) : Rows))) * 1 ≤ 4294967296 ∧ ((List.length ([] : Rows)) + (List.length ((v9a fn a0 a1) : Rows))) ≤ 4294967296)
 g27 : v9B fn a0 a1 a2 (0 ≤ (v9r a2 fn a0 a1))
 g28 : v9B fn a0 a1 a2 ((v9r a2 fn a0 a1) < (((([] ++ (v9a fn a0 a1))).length : Int)))
 g29 : v9B fn a0 a1 a2 ((((Int.toNat (v9r a2 fn a0 a1) : Nat) : Int)) < (((([] ++ (v9a fn a0 a1))).length : Int)))
 g33 : v9B fn a0 a1 a2 ((0 < a3) → 0 ≤ (v9r a2 fn a0 a1))
 g34 : v9B fn a0 a1 a2 ((0 < a3) → (v9r a2 fn a0 a1) < ((((List.set ([] ++ (v9a fn a0 a1)) (Int.toNat (Int.tmod a2 (((List.length ((v9a fn a0 a1) : Rows) : Nat) : Int)))) [D.i (Ar.std.wrap IntKind.u8 ((D.int (gt ([] ++ (v9a fn a0 a1)) (Int.toNat (Int.tmod a2 (((List.length ((v9a fn a0 a1) : Rows) : Nat) : Int)))) 0)) + a3))])).length : Int)))
 g35 : v9B fn a0 a1 a2 ((0 < a3) → (((Int.toNat (v9r a2 fn a0 a1) : Nat) : Int)) < ((((List.set ([] ++ (v9a fn a0 a1)) (Int.toNat (Int.tmod a2 (((List.length ((v9a fn a0 a1) : Rows) : Nat) : Int)))) [D.i (Ar.std.wrap IntKind.u8 ((D.int (gt ([] ++ (v9a fn a0 a1)) (Int.toNat (Int.tmod a2 (((List.length ((v9a fn a0 a1) : Rows) : Nat) : Int)))) 0)) + a3))])).length : Int)))
 g37 : v9B fn a0 a1 a2 ((0 < a3) → v9Z ((D.int (gt (v9b fn a0 a1 a2 a3) (Int.toNat (v9r a2 fn a0 a1)) 0))))
 g38 : v9B fn a0 a1 a2 ((0 < a3) → (255 : Int) ≠ 0)
 g40 : v9B fn a0 a1 a2 ((0 < a3) → (v9r a2 fn a0 a1) < (v9f fn a0 a1))
 g41 : v9B fn a0 a1 a2 ((0 < a3) → (((Int.toNat (v9r a2 fn a0 a1) : Nat) : Int)) < (v9f fn a0 a1))
 g42 : v9B fn a0 a1 a2 ((0 < a3) → v9Z ((D.int (gt (v9a fn a0 a1) (Int.toNat (v9r a2 fn a0 a1)) 0))))
 g44 : v9B fn a0 a1 a2 ((0 < a3) → (v9h fn a0 a1 a2 a3) → pre 29 [[D.l (v9b fn a0 a1 a2 a3)]])
 g45 : v9B fn a0 a1 a2 ((0 < a3) → (v9h fn a0 a1 a2 a3) → ((v9o fn a0 a1 a2 a3) = 0) → R 0 0 = D.b false)
 g46 : v9B fn a0 a1 a2 ((0 < a3) → (v9h fn a0 a1 a2 a3) → (¬ (v9o fn a0 a1 a2 a3) = 0) → pre 29 [[D.l (v9b fn a0 a1 a2 a3)]])
 g47 : v9B fn a0 a1 a2 ((0 < a3) → (v9h fn a0 a1 a2 a3) → (¬ (v9o fn a0 a1 a2 a3) = 0) → ((v9o fn a0 a1 a2 a3) = 0) → pre 27 [[D.l (D.rows (fn 29 [[D.l (v9b fn a0 a1 a2 a3)]] 0 0))]])
 g48 : v9B fn a0 a1 a2 ((0 < a3) → (v9h fn a0 a1 a2 a3) → (¬ (v9o fn a0 a1 a2 a3) = 0) → ((v9o fn a0 a1 a2 a3) = 0) → (¬ (v9p fn a0 a1 a2 a3) = 0) → R 0 0 = D.b false)
 g49 : v9B fn a0 a1 a2 ((0 < a3) → (v9h fn a0 a1 a2 a3) → (¬ (v9o fn a0 a1 a2 a3) = 0) → ((v9o fn a0 a1 a2 a3) = 0) → ((v9p fn a0 a1 a2 a3) = 0) → Ar.std.pU8 (v9q fn a0 a1 a2 a3))
 g50 : v9B fn a0 a1 a2 ((0 < a3) → (v9h fn a0 a1 a2 a3) → (¬ (v9o fn a0 a1 a2 a3) = 0) → ((v9o fn a0 a1 a2 a3) = 0) → ((v9p fn a0 a1 a2 a3) = 0) → Ar.std.pU8 (v9b fn a0 a1 a2 a3))
 g51 : v9B fn a0 a1 a2 ((0 < a3) → (v9h fn a0 a1 a2 a3) → (¬ (v9o fn a0 a1 a2 a3) = 0) → ((v9o fn a0 a1 a2 a3) = 0) → ((v9p fn a0 a1 a2 a3) = 0) → (¬ (Ar.std.strD (v9q fn a0 a1 a2 a3)) = (Ar.std.strD (v9b fn a0 a1 a2 a3))) → R 0 0 = D.b false)
 g52 : v9B fn a0 a1 a2 ((0 < a3) → (v9h fn a0 a1 a2 a3) → (¬ (v9o fn a0 a1 a2 a3) = 0) → ((v9o fn a0 a1 a2 a3) = 0) → ((v9p fn a0 a1 a2 a3) = 0) → (v9s fn a0 a1 a2 a3) → pre 13 [])
 g53 : v9B fn a0 a1 a2 ((0 < a3) → (v9h fn a0 a1 a2 a3) → (¬ (v9o fn a0 a1 a2 a3) = 0) → ((v9o fn a0 a1 a2 a3) = 0) → ((v9p fn a0 a1 a2 a3) = 0) → (v9s fn a0 a1 a2 a3) → R 0 0 = D.b (D.boo (fn 13 [] 0 0)))
 g54 : v9B fn a0 a1 a2 ((0 < a3) → (v9h fn a0 a1 a2 a3) → (¬ (v9o fn a0 a1 a2 a3) = 0) → (¬ (v9o fn a0 a1 a2 a3) = 0) → pre 13 [])
 g55 : v9B fn a0 a1 a2 ((0 < a3) → (v9h fn a0 a1 a2 a3) → (¬ (v9o fn a0 a1 a2 a3) = 0) → (¬ (v9o fn a0 a1 a2 a3) = 0) → R 0 0 = D.b (D.boo (fn 13 [] 0 0)))
 g56 : v9B fn a0 a1 a2 ((0 < a3) → (v9l fn a0 a1 a2 a3) → pre 29 [[D.l (v9b fn a0 a1 a2 a3)]])
 g57 : v9B fn a0 a1 a2 ((0 < a3) → (v9l fn a0 a1 a2 a3) → ((v9o fn a0 a1 a2 a3) = 0) → pre 27 [[D.l (D.rows (fn 29 [[D.l (v9b fn a0 a1 a2 a3)]] 0 0))]])
 g58 : v9B fn a0 a1 a2 ((0 < a3) → (v9l fn a0 a1 a2 a3) → ((v9o fn a0 a1 a2 a3) = 0) → (¬ (v9p fn a0 a1 a2 a3) = 0) → R 0 0 = D.b false)
 g59 : v9B fn a0 a1 a2 ((0 < a3) → (v9l fn a0 a1 a2 a3) → ((v9o fn a0 a1 a2 a3) = 0) → ((v9p fn a0 a1 a2 a3) = 0) → Ar.std.pU8 (v9q fn a0 a1 a2 a3))
 g60 : v9B fn a0 a1 a2 ((0 < a3) → (v9l fn a0 a1 a2 a3) → ((v9o fn a0 a1 a2 a3) = 0) → ((v9p fn a0 a1 a2 a3) = 0) → Ar.std.pU8 (v9b fn a0 a1 a2 a3))
 g61 : v9B fn a0 a1 a2 ((0 < a3) → (v9l fn a0 a1 a2 a3) → ((v9o fn a0 a1 a2 a3) = 0) → ((v9p fn a0 a1 a2 a3) = 0) → (¬ (Ar.std.strD (v9q fn a0 a1 a2 a3)) = (Ar.std.strD (v9b fn a0 a1 a2 a3))) → R 0 0 = D.b false)
 g62 : v9B fn a0 a1 a2 ((0 < a3) → (v9l fn a0 a1 a2 a3) → ((v9o fn a0 a1 a2 a3) = 0) → ((v9p fn a0 a1 a2 a3) = 0) → (v9s fn a0 a1 a2 a3) → pre 13 [])
 g63 : v9B fn a0 a1 a2 ((0 < a3) → (v9l fn a0 a1 a2 a3) → ((v9o fn a0 a1 a2 a3) = 0) → ((v9p fn a0 a1 a2 a3) = 0) → (v9s fn a0 a1 a2 a3) → R 0 0 = D.b (D.boo (fn 13 [] 0 0)))
 g64 : v9B fn a0 a1 a2 ((0 < a3) → (v9l fn a0 a1 a2 a3) → (¬ (v9o fn a0 a1 a2 a3) = 0) → pre 13 [])
 g65 : v9B fn a0 a1 a2 ((0 < a3) → (v9l fn a0 a1 a2 a3) → (¬ (v9o fn a0 a1 a2 a3) = 0) → R 0 0 = D.b (D.boo (fn 13 [] 0 0)))
 g66 : v9B fn a0 a1 a2 ((¬ 0 < a3) → pre 29 [[D.l (v9b fn a0 a1 a2 a3)]])
 g67 : v9B fn a0 a1 a2 ((¬ 0 < a3) → ((v9o fn a0 a1 a2 a3) = 0) → pre 27 [[D.l (D.rows (fn 29 [[D.l (v9b fn a0 a1 a2 a3)]] 0 0))]])
 g68 : v9B fn a0 a1 a2 ((¬ 0 < a3) → ((v9o fn a0 a1 a2 a3) = 0) → (¬ (v9p fn a0 a1 a2 a3) = 0) → R 0 0 = D.b false)
 g69 : v9B fn a0 a1 a2 ((¬ 0 < a3) → ((v9o fn a0 a1 a2 a3) = 0) → ((v9p fn a0 a1 a2 a3) = 0) → Ar.std.pU8 (v9q fn a0 a1 a2 a3))
 g70 : v9B fn a0 a1 a2 ((¬ 0 < a3) → ((v9o fn a0 a1 a2 a3) = 0) → ((v9p fn a0 a1 a2 a3) = 0) → Ar.std.pU8 (v9b fn a0 a1 a2 a3))
 g71 : v9B fn a0 a1 a2 ((¬ 0 < a3) → ((v9o fn a0 a1 a2 a3) = 0) → ((v9p fn a0 a1 a2 a3) = 0) → (¬ (Ar.std.strD (v9q fn a0 a1 a2 a3)) = (Ar.std.strD (v9b fn a0 a1 a2 a3))) → R 0 0 = D.b false)
 g72 : v9B fn a0 a1 a2 ((¬ 0 < a3) → ((v9o fn a0 a1 a2 a3) = 0) → ((v9p fn a0 a1 a2 a3) = 0) → (v9s fn a0 a1 a2 a3) → pre 13 [])
 g73 : v9B fn a0 a1 a2 ((¬ 0 < a3) → ((v9o fn a0 a1 a2 a3) = 0) → ((v9p fn a0 a1 a2 a3) = 0) → (v9s fn a0 a1 a2 a3) → R 0 0 = D.b (D.boo (fn 13 [] 0 0)))
 g74 : v9B fn a0 a1 a2 ((¬ 0 < a3) → (¬ (v9o fn a0 a1 a2 a3) = 0) → pre 13 [])
 g75 : v9B fn a0 a1 a2 ((¬ 0 < a3) → (¬ (v9o fn a0 a1 a2 a3) = 0) → R 0 0 = D.b (D.boo (fn 13 [] 0 0)))
 g76 : v9C fn a0 a1 a2 (((List.length ([] : Rows)) + (List.length ((v9a fn a0 a1) : Rows))) * 1 ≤ 4294967296 ∧ ((List.length ([] : Rows)) + (List.length ((v9a fn a0 a1) : Rows))) ≤ 4294967296)
 g77 : v9C fn a0 a1 a2 (0 ≤ (v9r a2 fn a0 a1))
 g78 : v9C fn a0 a1 a2 ((v9r a2 fn a0 a1) < (((([] ++ (v9a fn a0 a1))).length : Int)))
 g79 : v9C fn a0 a1 a2 ((((Int.toNat (v9r a2 fn a0 a1) : Nat) : Int)) < (((([] ++ (v9a fn a0 a1))).length : Int)))
 g83 : v9C fn a0 a1 a2 ((0 < a3) → 0 ≤ (v9r a2 fn a0 a1))
 g84 : v9C fn a0 a1 a2 ((0 < a3) → (v9r a2 fn a0 a1) < ((((List.set ([] ++ (v9a fn a0 a1)) (Int.toNat (Int.tmod a2 (((List.length ((v9a fn a0 a1) : Rows) : Nat) : Int)))) [D.i (Ar.std.wrap IntKind.u8 ((D.int (gt ([] ++ (v9a fn a0 a1)) (Int.toNat (Int.tmod a2 (((List.length ((v9a fn a0 a1) : Rows) : Nat) : Int)))) 0)) + a3))])).length : Int)))
 g85 : v9C fn a0 a1 a2 ((0 < a3) → (((Int.toNat (v9r a2 fn a0 a1) : Nat) : Int)) < ((((List.set ([] ++ (v9a fn a0 a1)) (Int.toNat (Int.tmod a2 (((List.length ((v9a fn a0 a1) : Rows) : Nat) : Int)))) [D.i (Ar.std.wrap IntKind.u8 ((D.int (gt ([] ++ (v9a fn a0 a1)) (Int.toNat (Int.tmod a2 (((List.length ((v9a fn a0 a1) : Rows) : Nat) : Int)))) 0)) + a3))])).length : Int)))
 g87 : v9C fn a0 a1 a2 ((0 < a3) → v9Z ((D.int (gt (v9b fn a0 a1 a2 a3) (Int.toNat (v9r a2 fn a0 a1)) 0))))
 g88 : v9C fn a0 a1 a2 ((0 < a3) → (255 : Int) ≠ 0)
 g90 : v9C fn a0 a1 a2 ((0 < a3) → (v9r a2 fn a0 a1) < (v9f fn a0 a1))
 g91 : v9C fn a0 a1 a2 ((0 < a3) → (((Int.toNat (v9r a2 fn a0 a1) : Nat) : Int)) < (v9f fn a0 a1))
 g92 : v9C fn a0 a1 a2 ((0 < a3) → v9Z ((D.int (gt (v9a fn a0 a1) (Int.toNat (v9r a2 fn a0 a1)) 0))))
 g94 : v9C fn a0 a1 a2 ((0 < a3) → (v9h fn a0 a1 a2 a3) → pre 29 [[D.l (v9b fn a0 a1 a2 a3)]])
 g95 : v9C fn a0 a1 a2 ((0 < a3) → (v9h fn a0 a1 a2 a3) → ((v9o fn a0 a1 a2 a3) = 0) → R 0 0 = D.b false)
 g96 : v9C fn a0 a1 a2 ((0 < a3) → (v9h fn a0 a1 a2 a3) → (¬ (v9o fn a0 a1 a2 a3) = 0) → pre 29 [[D.l (v9b fn a0 a1 a2 a3)]])
 g97 : v9C fn a0 a1 a2 ((0 < a3) → (v9h fn a0 a1 a2 a3) → (¬ (v9o fn a0 a1 a2 a3) = 0) → ((v9o fn a0 a1 a2 a3) = 0) → pre 27 [[D.l (D.rows (fn 29 [[D.l (v9b fn a0 a1 a2 a3)]] 0 0))]])
 g98 : v9C fn a0 a1 a2 ((0 < a3) → (v9h fn a0 a1 a2 a3) → (¬ (v9o fn a0 a1 a2 a3) = 0) → ((v9o fn a0 a1 a2 a3) = 0) → (¬ (v9p fn a0 a1 a2 a3) = 0) → R 0 0 = D.b false)
 g99 : v9C fn a0 a1 a2 ((0 < a3) → (v9h fn a0 a1 a2 a3) → (¬ (v9o fn a0 a1 a2 a3) = 0) → ((v9o fn a0 a1 a2 a3) = 0) → ((v9p fn a0 a1 a2 a3) = 0) → Ar.std.pU8 (v9q fn a0 a1 a2 a3))
 g100 : v9C fn a0 a1 a2 ((0 < a3) → (v9h fn a0 a1 a2 a3) → (¬ (v9o fn a0 a1 a2 a3) = 0) → ((v9o fn a0 a1 a2 a3) = 0) → ((v9p fn a0 a1 a2 a3) = 0) → Ar.std.pU8 (v9b fn a0 a1 a2 a3))
 g101 : v9C fn a0 a1 a2 ((0 < a3) → (v9h fn a0 a1 a2 a3) → (¬ (v9o fn a0 a1 a2 a3) = 0) → ((v9o fn a0 a1 a2 a3) = 0) → ((v9p fn a0 a1 a2 a3) = 0) → (¬ (Ar.std.strD (v9q fn a0 a1 a2 a3)) = (Ar.std.strD (v9b fn a0 a1 a2 a3))) → R 0 0 = D.b false)
 g102 : v9C fn a0 a1 a2 ((0 < a3) → (v9h fn a0 a1 a2 a3) → (¬ (v9o fn a0 a1 a2 a3) = 0) → ((v9o fn a0 a1 a2 a3) = 0) → ((v9p fn a0 a1 a2 a3) = 0) → (v9s fn a0 a1 a2 a3) → pre 13 [])
 g103 : v9C fn a0 a1 a2 ((0 < a3) → (v9h fn a0 a1 a2 a3) → (¬ (v9o fn a0 a1 a2 a3) = 0) → ((v9o fn a0 a1 a2 a3) = 0) → ((v9p fn a0 a1 a2 a3) = 0) → (v9s fn a0 a1 a2 a3) → R 0 0 = D.b (D.boo (fn 13 [] 0 0)))
 g104 : v9C fn a0 a1 a2 ((0 < a3) → (v9h fn a0 a1 a2 a3) → (¬ (v9o fn a0 a1 a2 a3) = 0) → (¬ (v9o fn a0 a1 a2 a3) = 0) → pre 13 [])
 g105 : v9C fn a0 a1 a2 ((0 < a3) → (v9h fn a0 a1 a2 a3) → (¬ (v9o fn a0 a1 a2 a3) = 0) → (¬ (v9o fn a0 a1 a2 a3) = 0) → R 0 0 = D.b (D.boo (fn 13 [] 0 0)))
 g106 : v9C fn a0 a1 a2 ((0 < a3) → (v9l fn a0 a1 a2 a3) → pre 29 [[D.l (v9b fn a0 a1 a2 a3)]])
 g107 : v9C fn a0 a1 a2 ((0 < a3) → (v9l fn a0 a1 a2 a3) → ((v9o fn a0 a1 a2 a3) = 0) → pre 27 [[D.l (D.rows (fn 29 [[D.l (v9b fn a0 a1 a2 a3)]] 0 0))]])
 g108 : v9C fn a0 a1 a2 ((0 < a3) → (v9l fn a0 a1 a2 a3) → ((v9o fn a0 a1 a2 a3) = 0) → (¬ (v9p fn a0 a1 a2 a3) = 0) → R 0 0 = D.b false)
 g109 : v9C fn a0 a1 a2 ((0 < a3) → (v9l fn a0 a1 a2 a3) → ((v9o fn a0 a1 a2 a3) = 0) → ((v9p fn a0 a1 a2 a3) = 0) → Ar.std.pU8 (v9q fn a0 a1 a2 a3))
 g110 : v9C fn a0 a1 a2 ((0 < a3) → (v9l fn a0 a1 a2 a3) → ((v9o fn a0 a1 a2 a3) = 0) → ((v9p fn a0 a1 a2 a3) = 0) → Ar.std.pU8 (v9b fn a0 a1 a2 a3))
 g111 : v9C fn a0 a1 a2 ((0 < a3) → (v9l fn a0 a1 a2 a3) → ((v9o fn a0 a1 a2 a3) = 0) → ((v9p fn a0 a1 a2 a3) = 0) → (¬ (Ar.std.strD (v9q fn a0 a1 a2 a3)) = (Ar.std.strD (v9b fn a0 a1 a2 a3))) → R 0 0 = D.b false)
 g112 : v9C fn a0 a1 a2 ((0 < a3) → (v9l fn a0 a1 a2 a3) → ((v9o fn a0 a1 a2 a3) = 0) → ((v9p fn a0 a1 a2 a3) = 0) → (v9s fn a0 a1 a2 a3) → pre 13 [])
 g113 : v9C fn a0 a1 a2 ((0 < a3) → (v9l fn a0 a1 a2 a3) → ((v9o fn a0 a1 a2 a3) = 0) → ((v9p fn a0 a1 a2 a3) = 0) → (v9s fn a0 a1 a2 a3) → R 0 0 = D.b (D.boo (fn 13 [] 0 0)))
 g114 : v9C fn a0 a1 a2 ((0 < a3) → (v9l fn a0 a1 a2 a3) → (¬ (v9o fn a0 a1 a2 a3) = 0) → pre 13 [])
 g115 : v9C fn a0 a1 a2 ((0 < a3) → (v9l fn a0 a1 a2 a3) → (¬ (v9o fn a0 a1 a2 a3) = 0) → R 0 0 = D.b (D.boo (fn 13 [] 0 0)))
 g116 : v9C fn a0 a1 a2 ((¬ 0 < a3) → pre 29 [[D.l (v9b fn a0 a1 a2 a3)]])
 g117 : v9C fn a0 a1 a2 ((¬ 0 < a3) → ((v9o fn a0 a1 a2 a3) = 0) → pre 27 [[D.l (D.rows (fn 29 [[D.l (v9b fn a0 a1 a2 a3)]] 0 0))]])
 g118 : v9C fn a0 a1 a2 ((¬ 0 < a3) → ((v9o fn a0 a1 a2 a3) = 0) → (¬ (v9p fn a0 a1 a2 a3) = 0) → R 0 0 = D.b false)
 g119 : v9C fn a0 a1 a2 ((¬ 0 < a3) → ((v9o fn a0 a1 a2 a3) = 0) → ((v9p fn a0 a1 a2 a3) = 0) → Ar.std.pU8 (v9q fn a0 a1 a2 a3))
 g120 : v9C fn a0 a1 a2 ((¬ 0 < a3) → ((v9o fn a0 a1 a2 a3) = 0) → ((v9p fn a0 a1 a2 a3) = 0) → Ar.std.pU8 (v9b fn a0 a1 a2 a3))
 g121 : v9C fn a0 a1 a2 ((¬ 0 < a3) → ((v9o fn a0 a1 a2 a3) = 0) → ((v9p fn a0 a1 a2 a3) = 0) → (¬ (Ar.std.strD (v9q fn a0 a1 a2 a3)) = (Ar.std.strD (v9b fn a0 a1 a2 a3))) → R 0 0 = D.b false)
 g122 : v9C fn a0 a1 a2 ((¬ 0 < a3) → ((v9o fn a0 a1 a2 a3) = 0) → ((v9p fn a0 a1 a2 a3) = 0) → (v9s fn a0 a1 a2 a3) → pre 13 [])
 g123 : v9C fn a0 a1 a2 ((¬ 0 < a3) → ((v9o fn a0 a1 a2 a3) = 0) → ((v9p fn a0 a1 a2 a3) = 0) → (v9s fn a0 a1 a2 a3) → R 0 0 = D.b (D.boo (fn 13 [] 0 0)))
 g124 : v9C fn a0 a1 a2 ((¬ 0 < a3) → (¬ (v9o fn a0 a1 a2 a3) = 0) → pre 13 [])
 g125 : v9C fn a0 a1 a2 ((¬ 0 < a3) → (¬ (v9o fn a0 a1 a2 a3) = 0) → R 0 0 = D.b (D.boo (fn 13 [] 0 0)))
end HX
