/-
  Texts of the executors: CxFn, CxWorks, HxTab, HxC, HxLib, V5, W5, HxEnv, CxClose, HxBase, HxClose, HxOwn, HxCtr, HxHold, HxEq, HxEqB, HxPres, V33, V32, V70, V72.
-/
import Derived.Test.YtlgaegbommfdmaaGreatCodeDecides5
import Derived.KernelRfl
import Derived.WalkKit
import Derived.ProofKit
import Derived.JoinedCond
import Derived.RowKit3
import Derived.ChangeArms
import Derived.ChangeCalls
import Derived.WideKeyArgs
set_option linter.all false
namespace CX
open Go Go.Proofs

theorem fnT_ok : T.All (fun f fn => Tryz.prog.funcs[f]? = some fn) fnT id := (And.intro (And.intro (And.intro (And.intro (And.intro (And.intro (And.intro (And.intro trivial (And.intro Tryz.func127 trivial)) (And.intro Tryz.func63 trivial)) (And.intro Tryz.func31 (And.intro trivial (And.intro Tryz.func95 trivial)))) (And.intro Tryz.func15 (And.intro (And.intro (And.intro trivial (And.intro Tryz.func143 trivial)) (And.intro Tryz.func79 trivial)) (And.intro Tryz.func47 (And.intro trivial (And.intro Tryz.func111 trivial)))))) (And.intro Tryz.func7 (And.intro (And.intro (And.intro (And.intro trivial (And.intro Tryz.func135 trivial)) (And.intro Tryz.func71 trivial)) (And.intro Tryz.func39 (And.intro trivial (And.intro Tryz.func103 trivial)))) (And.intro Tryz.func23 (And.intro (And.intro (And.intro trivial (And.intro Tryz.func151 trivial)) (And.intro Tryz.func87 trivial)) (And.intro Tryz.func55 (And.intro trivial (And.intro Tryz.func119 trivial)))))))) (And.intro Tryz.func3 (And.intro (And.intro (And.intro (And.intro (And.intro trivial (And.intro Tryz.func131 trivial)) (And.intro Tryz.func67 trivial)) (And.intro Tryz.func35 (And.intro trivial (And.intro Tryz.func99 trivial)))) (And.intro Tryz.func19 (And.intro (And.intro (And.intro trivial (And.intro Tryz.func147 trivial)) (And.intro Tryz.func83 trivial)) (And.intro Tryz.func51 (And.intro trivial (And.intro Tryz.func115 trivial)))))) (And.intro Tryz.func11 (And.intro (And.intro (And.intro (And.intro trivial (And.intro Tryz.func139 trivial)) (And.intro Tryz.func75 trivial)) (And.intro Tryz.func43 (And.intro trivial (And.intro Tryz.func107 trivial)))) (And.intro Tryz.func27 (And.intro (And.intro (And.intro trivial (And.intro Tryz.func155 trivial)) (And.intro Tryz.func91 trivial)) (And.intro Tryz.func59 (And.intro trivial (And.intro Tryz.func123 trivial)))))))))) (And.intro trivial (And.intro (And.intro (And.intro (And.intro (And.intro (And.intro trivial (And.intro Tryz.func129 trivial)) (And.intro Tryz.func65 trivial)) (And.intro Tryz.func33 (And.intro trivial (And.intro Tryz.func97 trivial)))) (And.intro Tryz.func17 (And.intro (And.intro (And.intro trivial (And.intro Tryz.func145 trivial)) (And.intro Tryz.func81 trivial)) (And.intro Tryz.func49 (And.intro trivial (And.intro Tryz.func113 trivial)))))) (And.intro Tryz.func9 (And.intro (And.intro (And.intro (And.intro trivial (And.intro Tryz.func137 trivial)) (And.intro Tryz.func73 trivial)) (And.intro Tryz.func41 (And.intro trivial (And.intro Tryz.func105 trivial)))) (And.intro Tryz.func25 (And.intro (And.intro (And.intro trivial (And.intro Tryz.func153 trivial)) (And.intro Tryz.func89 trivial)) (And.intro Tryz.func57 (And.intro trivial (And.intro Tryz.func121 trivial)))))))) (And.intro Tryz.func5 (And.intro (And.intro (And.intro (And.intro (And.intro trivial (And.intro Tryz.func133 trivial)) (And.intro Tryz.func69 trivial)) (And.intro Tryz.func37 (And.intro trivial (And.intro Tryz.func101 trivial)))) (And.intro Tryz.func21 (And.intro (And.intro (And.intro trivial (And.intro Tryz.func149 trivial)) (And.intro Tryz.func85 trivial)) (And.intro Tryz.func53 (And.intro trivial (And.intro Tryz.func117 trivial)))))) (And.intro Tryz.func13 (And.intro (And.intro (And.intro (And.intro trivial (And.intro Tryz.func141 trivial)) (And.intro Tryz.func77 trivial)) (And.intro Tryz.func45 (And.intro trivial (And.intro Tryz.func109 trivial)))) (And.intro Tryz.func29 (And.intro (And.intro trivial (And.intro Tryz.func93 trivial)) (And.intro Tryz.func61 (And.intro trivial (And.intro Tryz.func125 trivial)))))))))))) (And.intro trivial (And.intro (And.intro (And.intro (And.intro (And.intro (And.intro (And.intro trivial (And.intro Tryz.func128 trivial)) (And.intro Tryz.func64 trivial)) (And.intro Tryz.func32 (And.intro trivial (And.intro Tryz.func96 trivial)))) (And.intro Tryz.func16 (And.intro (And.intro (And.intro trivial (And.intro Tryz.func144 trivial)) (And.intro Tryz.func80 trivial)) (And.intro Tryz.func48 (And.intro trivial (And.intro Tryz.func112 trivial)))))) (And.intro Tryz.func8 (And.intro (And.intro (And.intro (And.intro trivial (And.intro Tryz.func136 trivial)) (And.intro Tryz.func72 trivial)) (And.intro Tryz.func40 (And.intro trivial (And.intro Tryz.func104 trivial)))) (And.intro Tryz.func24 (And.intro (And.intro (And.intro trivial (And.intro Tryz.func152 trivial)) (And.intro Tryz.func88 trivial)) (And.intro Tryz.func56 (And.intro trivial (And.intro Tryz.func120 trivial)))))))) (And.intro Tryz.func4 (And.intro (And.intro (And.intro (And.intro (And.intro trivial (And.intro Tryz.func132 trivial)) (And.intro Tryz.func68 trivial)) (And.intro Tryz.func36 (And.intro trivial (And.intro Tryz.func100 trivial)))) (And.intro Tryz.func20 (And.intro (And.intro (And.intro trivial (And.intro Tryz.func148 trivial)) (And.intro Tryz.func84 trivial)) (And.intro Tryz.func52 (And.intro trivial (And.intro Tryz.func116 trivial)))))) (And.intro Tryz.func12 (And.intro (And.intro (And.intro (And.intro trivial (And.intro Tryz.func140 trivial)) (And.intro Tryz.func76 trivial)) (And.intro Tryz.func44 (And.intro trivial (And.intro Tryz.func108 trivial)))) (And.intro Tryz.func28 (And.intro (And.intro (And.intro trivial (And.intro Tryz.func156 trivial)) (And.intro Tryz.func92 trivial)) (And.intro Tryz.func60 (And.intro trivial (And.intro Tryz.func124 trivial)))))))))) (And.intro Tryz.func2 (And.intro (And.intro (And.intro (And.intro (And.intro (And.intro trivial (And.intro Tryz.func130 trivial)) (And.intro Tryz.func66 trivial)) (And.intro Tryz.func34 (And.intro trivial (And.intro Tryz.func98 trivial)))) (And.intro Tryz.func18 (And.intro (And.intro (And.intro trivial (And.intro Tryz.func146 trivial)) (And.intro Tryz.func82 trivial)) (And.intro Tryz.func50 (And.intro trivial (And.intro Tryz.func114 trivial)))))) (And.intro Tryz.func10 (And.intro (And.intro (And.intro (And.intro trivial (And.intro Tryz.func138 trivial)) (And.intro Tryz.func74 trivial)) (And.intro Tryz.func42 (And.intro trivial (And.intro Tryz.func106 trivial)))) (And.intro Tryz.func26 (And.intro (And.intro (And.intro trivial (And.intro Tryz.func154 trivial)) (And.intro Tryz.func90 trivial)) (And.intro Tryz.func58 (And.intro trivial (And.intro Tryz.func122 trivial)))))))) (And.intro Tryz.func6 (And.intro (And.intro (And.intro (And.intro (And.intro trivial (And.intro Tryz.func134 trivial)) (And.intro Tryz.func70 trivial)) (And.intro Tryz.func38 (And.intro trivial (And.intro Tryz.func102 trivial)))) (And.intro Tryz.func22 (And.intro (And.intro (And.intro trivial (And.intro Tryz.func150 trivial)) (And.intro Tryz.func86 trivial)) (And.intro Tryz.func54 (And.intro trivial (And.intro Tryz.func118 trivial)))))) (And.intro Tryz.func14 (And.intro (And.intro (And.intro (And.intro trivial (And.intro Tryz.func142 trivial)) (And.intro Tryz.func78 trivial)) (And.intro Tryz.func46 (And.intro trivial (And.intro Tryz.func110 trivial)))) (And.intro Tryz.func30 (And.intro (And.intro trivial (And.intro Tryz.func94 trivial)) (And.intro Tryz.func62 (And.intro trivial (And.intro Tryz.func126 trivial))))))))))))))
end CX

namespace CX
open Go Go.Proofs

theorem names_ok : T.allB (fun fn : Func => fn.name != "runtime.NumGoroutine") fnT = true := by kernel_rfl
theorem types_ok : tabChk Tryz.prog env.T 258 = true := by kernel_rfl

theorem env_ok : EnvOk env Tryz.prog := by
  refine ⟨fun t ty h => ?_, fun f fn h => ?_, by kernel_rfl, fun _ _ h => by cases h⟩
  · refine tabChk_ok 258 types_ok t ty ?_ h
    simp only [env] at h
    split at h
    · rename_i hb; simpa [Nat.blt_eq] using hb
    · cases h
  · refine ⟨T.All.get fnT id fnT_ok f fn h, ?_⟩
    have := T.All.get fnT id (T.allB_ok fnT id names_ok) f fn h
    simpa using this

theorem works_run : callF env (cx env 1000) 0 .e 0 18 [] (fun v _ _ => retV v .e 0) = some (.normal, ⟨0, 0, .n .e (some (.bool true)) .e, .e, 0, []⟩) := by kernel_rfl

theorem works_ok (w : World) : Calls Tryz.prog 18 #[] w fun e w' => e = .returned (.bool true) ∧ Kept w w' := by
  refine (cx_call env_ok (fun _ => rfl) (xs := []) (by simp [RvL]) works_run w).mono fun e w' he => ?_
  obtain ⟨u, ρ, n, rfl, h, rest⟩ := he
  simp only [Rv] at h
  subst h
  exact ⟨rfl, rest⟩
end CX

namespace HX
open Go Go.Proofs

noncomputable def tyB : BT CX.Ty := (.n (.n (.n (.n (.n (.n (.n (.n .e 1 CX.ty1 .e) 2 CX.ty2 (.n .e 3 CX.ty3 .e)) 4 CX.ty4 (.n (.n .e 5 CX.ty5 .e) 6 CX.ty6 (.n .e 7 CX.ty7 .e))) 8 CX.ty8 (.n (.n (.n .e 9 CX.ty9 .e) 10 CX.ty10 (.n .e 11 CX.ty11 .e)) 12 CX.ty12 (.n (.n .e 13 CX.ty13 .e) 14 CX.ty14 (.n .e 15 CX.ty15 .e)))) 16 CX.ty16 (.n (.n (.n (.n .e 17 CX.ty17 .e) 18 CX.ty18 (.n .e 19 CX.ty19 .e)) 20 CX.ty20 (.n (.n .e 21 CX.ty21 .e) 22 CX.ty22 (.n .e 23 CX.ty23 .e))) 25 CX.ty25 (.n (.n (.n .e 26 CX.ty26 .e) 28 CX.ty28 (.n .e 29 CX.ty29 .e)) 30 CX.ty30 (.n (.n .e 31 CX.ty31 .e) 33 CX.ty33 .e)))) 34 CX.ty34 (.n (.n (.n (.n (.n .e 35 CX.ty35 .e) 36 CX.ty36 (.n .e 37 CX.ty37 .e)) 38 CX.ty38 (.n (.n .e 39 CX.ty39 .e) 40 CX.ty40 (.n .e 42 CX.ty42 .e))) 44 CX.ty44 (.n (.n (.n .e 45 CX.ty45 .e) 46 CX.ty46 (.n .e 47 CX.ty47 .e)) 48 CX.ty48 (.n (.n .e 49 CX.ty49 .e) 50 CX.ty50 .e))) 52 CX.ty52 (.n (.n (.n (.n .e 53 CX.ty53 .e) 54 CX.ty54 (.n .e 55 CX.ty55 .e)) 56 CX.ty56 (.n (.n .e 57 CX.ty57 .e) 58 CX.ty58 (.n .e 59 CX.ty59 .e))) 60 CX.ty60 (.n (.n (.n .e 61 CX.ty61 .e) 62 CX.ty62 (.n .e 63 CX.ty63 .e)) 64 CX.ty64 (.n (.n .e 65 CX.ty65 .e) 66 CX.ty66 .e))))) 67 CX.ty67 (.n (.n (.n (.n (.n (.n .e 68 CX.ty68 .e) 69 CX.ty69 (.n .e 70 CX.ty70 .e)) 71 CX.ty71 (.n (.n .e 72 CX.ty72 .e) 73 CX.ty73 (.n .e 74 CX.ty74 .e))) 75 CX.ty75 (.n (.n (.n .e 76 CX.ty76 .e) 78 CX.ty78 (.n .e 79 CX.ty79 .e)) 81 CX.ty81 (.n (.n .e 82 CX.ty82 .e) 83 CX.ty83 .e))) 84 CX.ty84 (.n (.n (.n (.n .e 85 CX.ty85 .e) 86 CX.ty86 (.n .e 87 CX.ty87 .e)) 88 CX.ty88 (.n (.n .e 89 CX.ty89 .e) 90 CX.ty90 (.n .e 91 CX.ty91 .e))) 92 CX.ty92 (.n (.n (.n .e 93 CX.ty93 .e) 94 CX.ty94 (.n .e 95 CX.ty95 .e)) 96 CX.ty96 (.n (.n .e 97 CX.ty97 .e) 98 CX.ty98 .e)))) 99 CX.ty99 (.n (.n (.n (.n (.n .e 100 CX.ty100 .e) 101 CX.ty101 (.n .e 102 CX.ty102 .e)) 103 CX.ty103 (.n (.n .e 104 CX.ty104 .e) 105 CX.ty105 (.n .e 106 CX.ty106 .e))) 107 CX.ty107 (.n (.n (.n .e 108 CX.ty108 .e) 109 CX.ty109 (.n .e 110 CX.ty110 .e)) 111 CX.ty111 (.n (.n .e 112 CX.ty112 .e) 113 CX.ty113 .e))) 114 CX.ty114 (.n (.n (.n (.n .e 115 CX.ty115 .e) 116 CX.ty116 (.n .e 117 CX.ty117 .e)) 118 CX.ty118 (.n (.n .e 119 CX.ty119 .e) 120 CX.ty120 (.n .e 121 CX.ty121 .e))) 122 CX.ty122 (.n (.n (.n .e 123 CX.ty123 .e) 124 CX.ty124 (.n .e 125 CX.ty125 .e)) 126 CX.ty126 (.n (.n .e 127 CX.ty127 .e) 128 CX.ty128 .e)))))) 129 CX.ty129 (.n (.n (.n (.n (.n (.n (.n .e 130 CX.ty130 .e) 131 CX.ty131 (.n .e 132 CX.ty132 .e)) 133 CX.ty133 (.n (.n .e 134 CX.ty134 .e) 135 CX.ty135 (.n .e 136 CX.ty136 .e))) 137 CX.ty137 (.n (.n (.n .e 138 CX.ty138 .e) 139 CX.ty139 (.n .e 140 CX.ty140 .e)) 141 CX.ty141 (.n (.n .e 142 CX.ty142 .e) 143 CX.ty143 .e))) 144 CX.ty144 (.n (.n (.n (.n .e 145 CX.ty145 .e) 146 CX.ty146 (.n .e 147 CX.ty147 .e)) 148 CX.ty148 (.n (.n .e 149 CX.ty149 .e) 150 CX.ty150 (.n .e 151 CX.ty151 .e))) 152 CX.ty152 (.n (.n (.n .e 153 CX.ty153 .e) 154 CX.ty154 (.n .e 155 CX.ty155 .e)) 156 CX.ty156 (.n (.n .e 157 CX.ty157 .e) 158 CX.ty158 .e)))) 159 CX.ty159 (.n (.n (.n (.n (.n .e 160 CX.ty160 .e) 161 CX.ty161 (.n .e 162 CX.ty162 .e)) 163 CX.ty163 (.n (.n .e 164 CX.ty164 .e) 165 CX.ty165 (.n .e 166 CX.ty166 .e))) 167 CX.ty167 (.n (.n (.n .e 168 CX.ty168 .e) 169 CX.ty169 (.n .e 170 CX.ty170 .e)) 171 CX.ty171 (.n (.n .e 172 CX.ty172 .e) 173 CX.ty173 .e))) 174 CX.ty174 (.n (.n (.n (.n .e 175 CX.ty175 .e) 177 CX.ty177 (.n .e 178 CX.ty178 .e)) 179 CX.ty179 (.n (.n .e 180 CX.ty180 .e) 181 CX.ty181 (.n .e 182 CX.ty182 .e))) 183 CX.ty183 (.n (.n (.n .e 184 CX.ty184 .e) 185 CX.ty185 (.n .e 186 CX.ty186 .e)) 188 CX.ty188 (.n (.n .e 189 CX.ty189 .e) 190 CX.ty190 .e))))) 191 CX.ty191 (.n (.n (.n (.n (.n (.n .e 192 CX.ty192 .e) 193 CX.ty193 (.n .e 194 CX.ty194 .e)) 195 CX.ty195 (.n (.n .e 196 CX.ty196 .e) 197 CX.ty197 (.n .e 198 CX.ty198 .e))) 199 CX.ty199 (.n (.n (.n .e 200 CX.ty200 .e) 202 CX.ty202 (.n .e 203 CX.ty203 .e)) 204 CX.ty204 (.n (.n .e 205 CX.ty205 .e) 206 CX.ty206 .e))) 207 CX.ty207 (.n (.n (.n (.n .e 208 CX.ty208 .e) 210 CX.ty210 (.n .e 211 CX.ty211 .e)) 212 CX.ty212 (.n (.n .e 214 CX.ty214 .e) 215 CX.ty215 (.n .e 216 CX.ty216 .e))) 217 CX.ty217 (.n (.n (.n .e 218 CX.ty218 .e) 219 CX.ty219 (.n .e 220 CX.ty220 .e)) 222 CX.ty222 (.n (.n .e 224 CX.ty224 .e) 225 CX.ty225 .e)))) 226 CX.ty226 (.n (.n (.n (.n (.n .e 228 CX.ty228 .e) 229 CX.ty229 (.n .e 230 CX.ty230 .e)) 231 CX.ty231 (.n (.n .e 232 CX.ty232 .e) 233 CX.ty233 (.n .e 234 CX.ty234 .e))) 235 CX.ty235 (.n (.n (.n .e 236 CX.ty236 .e) 237 CX.ty237 (.n .e 238 CX.ty238 .e)) 239 CX.ty239 (.n (.n .e 240 CX.ty240 .e) 242 CX.ty242 .e))) 243 CX.ty243 (.n (.n (.n (.n .e 244 CX.ty244 .e) 245 CX.ty245 (.n .e 246 CX.ty246 .e)) 247 CX.ty247 (.n (.n .e 248 CX.ty248 .e) 249 CX.ty249 (.n .e 250 CX.ty250 .e))) 251 CX.ty251 (.n (.n (.n .e 252 CX.ty252 .e) 253 CX.ty253 (.n .e 254 CX.ty254 .e)) 255 CX.ty255 (.n (.n .e 256 CX.ty256 .e) 257 CX.ty257 .e)))))))
def ksB : BT (List Kd) := (.n (.n (.n (.n (.n (.n (.n .e 2 [.int .i64] .e) 3 [.int .i64] .e) 4 [.bool] (.n (.n .e 5 [.int .u8] .e) 6 [.int .u8] .e)) 7 [.int .i64, .int .i64, .bool, .int .u8] (.n (.n (.n .e 8 [.int .i64, .int .i64, .bool, .int .u8] .e) 9 [.str] .e) 10 [.str] (.n .e 11 [.str] .e))) 12 [.int .u64] (.n (.n (.n (.n .e 13 [.str, .int .u64] .e) 14 [.str, .int .u64] .e) 21 [.int .i32] (.n .e 22 [.sl [.int .i64]] .e)) 23 [.int .i64] (.n (.n (.n .e 31 [.sl [.int .i64, .int .i64]] .e) 38 [.sl [.sl [.sl [.int .i64]], .sl [.int .i64]]] .e) 39 [.sl [.bool]] (.n .e 40 [.sl [.sl [.sl [.int .i64]], .sl [.int .i64]]] .e)))) 47 [.sl [.int .i64, .int .i64, .int .i64, .int .i64, .int .i64, .int .i64, .int .i64, .int .i64]] (.n (.n (.n (.n (.n .e 48 [.sl [.int .i64, .int .i64, .int .i64, .int .i64]] .e) 49 [.sl [.int .i64, .int .i64, .int .i64, .int .i64, .int .i64, .int .i64, .int .i64, .int .i64], .int .i64, .sl [.int .i64, .int .i64, .int .i64, .int .i64]] .e) 50 [.sl [.int .i64, .int .i64, .int .i64, .int .i64, .int .i64, .int .i64, .int .i64, .int .i64], .int .i64, .sl [.int .i64, .int .i64, .int .i64, .int .i64]] (.n (.n .e 57 [.sl [.sl [.sl [.int .i64], .int .i64, .int .i64]]] .e) 58 [.sl [.sl [.sl [.int .i64], .int .i64, .int .i64]]] .e)) 59 [.sl [.sl [.int .i64], .int .i64, .int .i64]] (.n (.n (.n .e 60 [.sl [.sl [.int .i64], .int .i64, .int .i64]] .e) 61 [.sl [.int .i64], .int .i64, .int .i64] .e) 62 [.sl [.int .i64], .int .i64, .int .i64] (.n .e 63 [.sl [.int .i64], .int .i64, .int .i64] .e))) 70 [.sl [.sl [.int .i64], .bool]] (.n (.n (.n (.n .e 71 [.sl [.sl [.int .i64], .bool]] .e) 72 [.sl [.int .i64], .bool] .e) 73 [.sl [.int .i64], .bool] (.n .e 74 [.sl [.int .i64], .bool] .e)) 75 [.sl [.int .i64], .int .i64, .int .i64, .bool] (.n (.n (.n .e 76 [.sl [.int .i64], .int .i64, .int .i64, .bool] .e) 79 [.sl [.int .i64], .int .i64, .int .i64, .bool] .e) 83 [.int .u16] (.n .e 85 [.sl [.int .i16]] .e))))) 86 [.sl [.int .u8]] (.n (.n (.n (.n (.n (.n .e 88 [.int .i16] .e) 89 [.int .i64, .int .i64] .e) 90 [.int .i64, .int .i64] (.n (.n .e 92 [.sl [.int .i8]] .e) 93 [.sl [.int .u8], .sl [.int .i8]] .e)) 94 [.sl [.int .u8], .sl [.int .i8]] (.n (.n (.n .e 97 [.sl [.sl [.int .i64]]] .e) 98 [.sl [.sl [.int .i64]], .sl [.int .i64]] .e) 99 [.sl [.sl [.int .i64]], .sl [.int .i64]] (.n .e 105 [.sl [.int .i8, .int .i8, .int .i8, .int .i8]] .e))) 106 [.int .i8] (.n (.n (.n (.n .e 107 [.int .i8, .int .i8, .int .i8, .int .i8] .e) 110 [.int .i64, .int .i64, .int .i64] .e) 111 [.int .i64, .int .i64, .int .i64] (.n .e 118 [.int .i64, .int .i64] .e)) 119 [.int .i64, .int .i64] (.n (.n (.n .e 122 [.sl [.sl [.int .i64]], .sl [.int .i64]] .e) 132 [.int .i64, .int .i64, .int .i64, .int .i64, .int .i64, .int .i64, .int .i64, .int .i64] .e) 133 [.int .i64, .int .i64, .int .i64, .int .i64, .int .i64, .int .i64, .int .i64, .int .i64] (.n .e 138 [.int .i64, .int .i64, .int .i64, .int .i64, .int .i64] .e)))) 139 [.int .i64, .int .i64, .int .i64, .int .i64, .int .i64] (.n (.n (.n (.n (.n .e 141 [.int .i64, .int .i64, .int .i64, .int .i64] .e) 142 [.int .i64, .int .i64, .int .i64, .int .i64] .e) 160 [.sl [.int .i64, .int .i64]] (.n .e 161 [.sl [.int .i64, .int .i64]] .e)) 164 [.sl [.int .i64, .int .i64, .int .i64]] (.n (.n (.n .e 171 [.int .u64] .e) 194 [.sl [.int .i64, .int .i64]] .e) 195 [.sl [.int .i64], .sl [.int .i64], .sl [.int .i64], .sl [.int .i64], .sl [.int .i64], .sl [.int .i64], .sl [.int .i64], .sl [.int .i64], .sl [.int .i64], .sl [.int .i64], .sl [.int .i64], .sl [.int .i64], .sl [.int .i64], .sl [.int .i64], .sl [.int .i64], .sl [.int .i64]] (.n .e 196 [.sl [.int .i64], .sl [.int .i64], .sl [.int .i64], .sl [.int .i64], .sl [.int .i64], .sl [.int .i64], .sl [.int .i64], .sl [.int .i64], .sl [.int .i64], .sl [.int .i64], .sl [.int .i64], .sl [.int .i64], .sl [.int .i64], .sl [.int .i64], .sl [.int .i64], .sl [.int .i64]] .e))) 199 [.int .i64, .int .i64] (.n (.n (.n (.n .e 200 [.int .i64, .int .i64] .e) 208 [.int .i64] .e) 216 [.int .u32] (.n .e 218 [.int .u64] .e)) 232 [.int .u64] (.n (.n (.n .e 249 [.int .u8] .e) 250 [.int .u8] .e) 253 [.int .i32] (.n .e 254 [.int .i32] .e))))))
end HX

namespace HX
open Go Go.Proofs CX

noncomputable def tyF (t : Nat) : Option CX.Ty := tyB.get t
def ksF (t : Nat) : Option (List Kd) := ksB.get t
noncomputable def fnF (f : Nat) : Option Func := CX.env.fn f
def extF (f : Nat) : Option Bool := match beqN f 18 with
  | true => some true
  | false => none
noncomputable def cxE (ro : Addr → Option V) : CX.Env := ⟨tyF, fnF, extF, ro⟩

structure Ctr where
  f : Nat
  sg : Sig
  pre : List (List D) → Prop
  res : List (List D) → Nat → Nat → D

def inlL (l : List (Nat × Func)) (f : Nat) : Option Func := look l f
def sigL (l : List (Nat × Sig)) (f : Nat) : Option Sig := look l f
def sigs (l : List Ctr) : List (Nat × Sig) := l.map fun c => (c.f, c.sg)
def ctrOf : List Ctr → Nat → Option Ctr
  | [], _ => none
  | c :: r, f => if c.f = f then some c else ctrOf r f
def preOf (l : List Ctr) (f : Nat) (ds : List (List D)) : Prop := match ctrOf l f with
  | some c => c.pre ds
  | none => False
def resOf (l : List Ctr) (f : Nat) (ds : List (List D)) : Nat → Nat → D := match ctrOf l f with
  | some c => c.res ds
  | none => fun _ _ => .nil
end HX

namespace HX
open Go Go.Proofs CX

def ints (l : List Int) : Rows := l.map fun x => [.i x]
def unI (rows : Rows) : List Int := rows.map fun r => (r.getD 0 .nil).int
theorem unI_ints (l : List Int) : unI (ints l) = l := by simp [unI, ints, D.int, Function.comp_def]
theorem ints_of {k : IntKind} {rows : Rows} (h : ShR [.int k] rows) : rows = ints (unI rows) := by
  have key : ∀ rows : Rows, (∀ row ∈ rows, ShL [.int k] row) → rows = ints (unI rows) := by
    intro rows
    induction rows with
    | nil => intro _; rfl
    | cons r rows ih =>
      intro h
      have h1 := h r (.head _)
      have h2 := ih fun row hr => h row (.tail _ hr)
      match r, h1 with
      | [d], h1 =>
        simp only [ShL, ShK] at h1
        obtain ⟨⟨n, rfl⟩, _⟩ := h1
        simp only [ints, unI, List.map_cons] at h2 ⊢
        rw [← h2]; rfl
      | [], h1 => simp [ShL] at h1
      | _ :: _ :: _, h1 => simp [ShL] at h1
  exact key rows h.1
theorem gt_ints (l : List Int) (i : Nat) : gt (ints l) i 0 = if i < l.length then .i (l.getD i 0) else .nil := by
  simp only [gt, ints, List.getD_eq_getElem?_getD, List.getElem?_map]
  split
  · rename_i h; simp [h]
  · rename_i h; simp [Nat.le_of_not_lt h]
theorem gtI (l : List Int) (i : Nat) : (gt (ints l) i 0).int = l.getD i 0 := by
  simp only [gt, ints, List.getD_eq_getElem?_getD, List.getElem?_map]
  cases l[i]? <;> rfl
theorem ints_len (l : List Int) : (ints l).length = l.length := by simp [ints]
theorem ints_app (l m : List Int) : ints l ++ ints m = ints (l ++ m) := by simp [ints]
theorem ints_one (x : Int) : [[D.i x]] = ints [x] := rfl
theorem ints_inj {l m : List Int} : ints l = ints m ↔ l = m := by
  refine ⟨fun h => ?_, fun h => by rw [h]⟩
  rw [← unI_ints l, h, unI_ints]

theorem inl0 {E : CX.Env} : ∀ f fn, inlL [] f = some fn → E.fn f = some fn ∧ E.ext f = none := fun _ _ h => by simp [inlL, look] at h

theorem i64_in (n : Int) : (IntKind.i64.min ≤ n ∧ n ≤ IntKind.i64.max) ↔ (-9223372036854775808 ≤ n ∧ n ≤ 9223372036854775807) := Iff.rfl
theorem take_next {α : Type} {p q : List α} {r : Nat} {x : α} (h : p.take r = q.take r) (h1 : r < p.length) (h2 : r < q.length) (he : p.getD r x = q.getD r x) : p.take (r + 1) = q.take (r + 1) := by
  rw [List.take_succ, List.take_succ, h]
  simp only [List.getD_eq_getElem?_getD, List.getElem?_eq_getElem h1, List.getElem?_eq_getElem h2, Option.getD_some] at he ⊢
  rw [he]

theorem all_next {a : Rows} {p : List D → Bool} {r : Nat} (h : (a.take r).all p = true) (hr : r < a.length) (he : p (a.getD r []) = true) : (a.take (r + 1)).all p = true := by
  rw [List.take_succ, List.all_append, h, List.getElem?_eq_getElem hr]
  simpa [List.getD_eq_getElem?_getD, List.getElem?_eq_getElem hr] using he
theorem all_not {a : Rows} {p : List D → Bool} {r : Nat} (hr : r < a.length) (he : p (a.getD r []) = false) : a.all p = false := by
  rw [List.all_eq_false]
  refine ⟨a[r], List.getElem_mem hr, ?_⟩
  simpa [List.getD_eq_getElem?_getD, List.getElem?_eq_getElem hr] using he

inductive Inls (E : CX.Env) : List (Nat × Func) → Prop
  | nil : Inls E []
  | cons {f : Nat} {fn : Func} {l : List (Nat × Func)} (h : E.fn f = some fn) (h' : E.ext f = none) (r : Inls E l) : Inls E ((f, fn) :: l)
theorem Inls.ok {E : CX.Env} : ∀ {l : List (Nat × Func)}, Inls E l → ∀ f fn, inlL l f = some fn → E.fn f = some fn ∧ E.ext f = none
  | [], _, f, fn, h => by simp [inlL, look] at h
  | (g, gn) :: l, .cons h1 h2 r, f, fn, h => by
    unfold inlL at h
    rw [look_cons] at h
    split at h
    · rename_i e
      simp only [Option.some.injEq] at h
      subst e h
      exact ⟨h1, h2⟩
    · exact r.ok f fn h

def mxI (x y : Int) : Int := if x < y then y else x
def mnI (x y : Int) : Int := if y < x then y else x
theorem mxI_eq (x y : Int) : mxI x y = max x y := by unfold mxI; split <;> omega
theorem mnI_eq (x y : Int) : mnI x y = min x y := by unfold mnI; split <;> omega
theorem dt {p : Prop} [d : Decidable p] (h : decide p = true) : p := of_decide_eq_true h
theorem df {p : Prop} [d : Decidable p] (h : decide p = false) : ¬ p := of_decide_eq_false h
theorem nt {b : Bool} (h : (!b) = true) : b = false := by simpa using h
theorem nf {b : Bool} (h : (!b) = false) : b = true := by simpa using h
theorem not_t {b : Bool} (h : (!b) = true) : b = false := by simpa using h
theorem not_f {b : Bool} (h : (!b) = false) : b = true := by simpa using h
theorem and_t {a b : Bool} (h : (a && b) = true) : a = true ∧ b = true := by simpa using h
theorem and_f {a b : Bool} (h : (a && b) = false) : a = false ∨ b = false := by cases a <;> cases b <;> simp_all

def I64 : Bool × List Kd := (false, [.int .i64])
def BOOL : Bool × List Kd := (false, [.bool])
def INS : Bool × List Kd := (false, [.sl [.int .i64]])
end HX

namespace HX
open Go Go.Proofs CX
structure V5 (pre : Nat → List (List D) → Prop) (fn : Nat → List (List D) → Nat → Nat → D) (a0 : Int) (a1 : Rows) (a2 : Rows) (a3 : Int) (R : Nat → Nat → D)  : Prop where
  g0 : pre 28 [[D.l a1]]
  g1 : (D.boo (fn 28 [[D.l a1]] 1 0) = false) → pre 18 []
  g2 : (D.boo (fn 28 [[D.l a1]] 1 0) = false) → R 0 0 = D.b (D.boo (fn 18 [] 0 0))
  g3 : (D.boo (fn 28 [[D.l a1]] 1 0) = true) → (40 < (a2.length : Int)) → pre 18 []
  g4 : (D.boo (fn 28 [[D.l a1]] 1 0) = true) → (40 < (a2.length : Int)) → R 0 0 = D.b (D.boo (fn 18 [] 0 0))
  g5 : (D.boo (fn 28 [[D.l a1]] 1 0) = true) → (¬ 40 < (a2.length : Int)) → pre 29 [[D.l (D.rows (fn 28 [[D.l a1]] 0 0))], [D.l a2]]
  g6 : (D.boo (fn 28 [[D.l a1]] 1 0) = true) → (¬ 40 < (a2.length : Int)) → pre 30 [[D.l a1], [D.l a2]]
  g7 : (D.boo (fn 28 [[D.l a1]] 1 0) = true) → (¬ 40 < (a2.length : Int)) → pre 31 [[D.l (D.rows (fn 29 [[D.l (D.rows (fn 28 [[D.l a1]] 0 0))], [D.l a2]] 0 0))], [D.l (D.rows (fn 30 [[D.l a1], [D.l a2]] 0 0))]]
  g8 : (D.boo (fn 28 [[D.l a1]] 1 0) = true) → (¬ 40 < (a2.length : Int)) → (D.boo (fn 31 [[D.l (D.rows (fn 29 [[D.l (D.rows (fn 28 [[D.l a1]] 0 0))], [D.l a2]] 0 0))], [D.l (D.rows (fn 30 [[D.l a1], [D.l a2]] 0 0))]] 0 0) = false) → R 0 0 = D.b false
  g9 : (D.boo (fn 28 [[D.l a1]] 1 0) = true) → (¬ 40 < (a2.length : Int)) → (D.boo (fn 31 [[D.l (D.rows (fn 29 [[D.l (D.rows (fn 28 [[D.l a1]] 0 0))], [D.l a2]] 0 0))], [D.l (D.rows (fn 30 [[D.l a1], [D.l a2]] 0 0))]] 0 0) = true) → (¬ (D.int (fn 29 [[D.l (D.rows (fn 28 [[D.l a1]] 0 0))], [D.l a2]] 1 0)) = (D.int (fn 30 [[D.l a1], [D.l a2]] 1 0))) → R 0 0 = D.b false
  g10 : (D.boo (fn 28 [[D.l a1]] 1 0) = true) → (¬ 40 < (a2.length : Int)) → (D.boo (fn 31 [[D.l (D.rows (fn 29 [[D.l (D.rows (fn 28 [[D.l a1]] 0 0))], [D.l a2]] 0 0))], [D.l (D.rows (fn 30 [[D.l a1], [D.l a2]] 0 0))]] 0 0) = true) → ((D.int (fn 29 [[D.l (D.rows (fn 28 [[D.l a1]] 0 0))], [D.l a2]] 1 0)) = (D.int (fn 30 [[D.l a1], [D.l a2]] 1 0))) → pre 32 [[D.i a0], [D.l (D.rows (fn 28 [[D.l a1]] 0 0))]]
  g11 : (D.boo (fn 28 [[D.l a1]] 1 0) = true) → (¬ 40 < (a2.length : Int)) → (D.boo (fn 31 [[D.l (D.rows (fn 29 [[D.l (D.rows (fn 28 [[D.l a1]] 0 0))], [D.l a2]] 0 0))], [D.l (D.rows (fn 30 [[D.l a1], [D.l a2]] 0 0))]] 0 0) = true) → ((D.int (fn 29 [[D.l (D.rows (fn 28 [[D.l a1]] 0 0))], [D.l a2]] 1 0)) = (D.int (fn 30 [[D.l a1], [D.l a2]] 1 0))) → pre 33 [[D.i a0], [D.l a1]]
  g12 : (D.boo (fn 28 [[D.l a1]] 1 0) = true) → (¬ 40 < (a2.length : Int)) → (D.boo (fn 31 [[D.l (D.rows (fn 29 [[D.l (D.rows (fn 28 [[D.l a1]] 0 0))], [D.l a2]] 0 0))], [D.l (D.rows (fn 30 [[D.l a1], [D.l a2]] 0 0))]] 0 0) = true) → ((D.int (fn 29 [[D.l (D.rows (fn 28 [[D.l a1]] 0 0))], [D.l a2]] 1 0)) = (D.int (fn 30 [[D.l a1], [D.l a2]] 1 0))) → pre 34 [[D.l (D.rows (fn 32 [[D.i a0], [D.l (D.rows (fn 28 [[D.l a1]] 0 0))]] 0 0)), D.i (D.int (fn 32 [[D.i a0], [D.l (D.rows (fn 28 [[D.l a1]] 0 0))]] 0 1)), D.l (D.rows (fn 32 [[D.i a0], [D.l (D.rows (fn 28 [[D.l a1]] 0 0))]] 0 2))], [D.l (D.rows (fn 33 [[D.i a0], [D.l a1]] 0 0)), D.i (D.int (fn 33 [[D.i a0], [D.l a1]] 0 1)), D.l (D.rows (fn 33 [[D.i a0], [D.l a1]] 0 2))]]
  g13 : (D.boo (fn 28 [[D.l a1]] 1 0) = true) → (¬ 40 < (a2.length : Int)) → (D.boo (fn 31 [[D.l (D.rows (fn 29 [[D.l (D.rows (fn 28 [[D.l a1]] 0 0))], [D.l a2]] 0 0))], [D.l (D.rows (fn 30 [[D.l a1], [D.l a2]] 0 0))]] 0 0) = true) → ((D.int (fn 29 [[D.l (D.rows (fn 28 [[D.l a1]] 0 0))], [D.l a2]] 1 0)) = (D.int (fn 30 [[D.l a1], [D.l a2]] 1 0))) → (D.boo (fn 34 [[D.l (D.rows (fn 32 [[D.i a0], [D.l (D.rows (fn 28 [[D.l a1]] 0 0))]] 0 0)), D.i (D.int (fn 32 [[D.i a0], [D.l (D.rows (fn 28 [[D.l a1]] 0 0))]] 0 1)), D.l (D.rows (fn 32 [[D.i a0], [D.l (D.rows (fn 28 [[D.l a1]] 0 0))]] 0 2))], [D.l (D.rows (fn 33 [[D.i a0], [D.l a1]] 0 0)), D.i (D.int (fn 33 [[D.i a0], [D.l a1]] 0 1)), D.l (D.rows (fn 33 [[D.i a0], [D.l a1]] 0 2))]] 0 0) = false) → R 0 0 = D.b false
  g14 : (D.boo (fn 28 [[D.l a1]] 1 0) = true) → (¬ 40 < (a2.length : Int)) → (D.boo (fn 31 [[D.l (D.rows (fn 29 [[D.l (D.rows (fn 28 [[D.l a1]] 0 0))], [D.l a2]] 0 0))], [D.l (D.rows (fn 30 [[D.l a1], [D.l a2]] 0 0))]] 0 0) = true) → ((D.int (fn 29 [[D.l (D.rows (fn 28 [[D.l a1]] 0 0))], [D.l a2]] 1 0)) = (D.int (fn 30 [[D.l a1], [D.l a2]] 1 0))) → (D.boo (fn 34 [[D.l (D.rows (fn 32 [[D.i a0], [D.l (D.rows (fn 28 [[D.l a1]] 0 0))]] 0 0)), D.i (D.int (fn 32 [[D.i a0], [D.l (D.rows (fn 28 [[D.l a1]] 0 0))]] 0 1)), D.l (D.rows (fn 32 [[D.i a0], [D.l (D.rows (fn 28 [[D.l a1]] 0 0))]] 0 2))], [D.l (D.rows (fn 33 [[D.i a0], [D.l a1]] 0 0)), D.i (D.int (fn 33 [[D.i a0], [D.l a1]] 0 1)), D.l (D.rows (fn 33 [[D.i a0], [D.l a1]] 0 2))]] 0 0) = true) → (¬ (D.int (fn 32 [[D.i a0], [D.l (D.rows (fn 28 [[D.l a1]] 0 0))]] 1 0)) = (D.int (fn 33 [[D.i a0], [D.l a1]] 1 0))) → R 0 0 = D.b false
  g15 : (D.boo (fn 28 [[D.l a1]] 1 0) = true) → (¬ 40 < (a2.length : Int)) → (D.boo (fn 31 [[D.l (D.rows (fn 29 [[D.l (D.rows (fn 28 [[D.l a1]] 0 0))], [D.l a2]] 0 0))], [D.l (D.rows (fn 30 [[D.l a1], [D.l a2]] 0 0))]] 0 0) = true) → ((D.int (fn 29 [[D.l (D.rows (fn 28 [[D.l a1]] 0 0))], [D.l a2]] 1 0)) = (D.int (fn 30 [[D.l a1], [D.l a2]] 1 0))) → (D.boo (fn 34 [[D.l (D.rows (fn 32 [[D.i a0], [D.l (D.rows (fn 28 [[D.l a1]] 0 0))]] 0 0)), D.i (D.int (fn 32 [[D.i a0], [D.l (D.rows (fn 28 [[D.l a1]] 0 0))]] 0 1)), D.l (D.rows (fn 32 [[D.i a0], [D.l (D.rows (fn 28 [[D.l a1]] 0 0))]] 0 2))], [D.l (D.rows (fn 33 [[D.i a0], [D.l a1]] 0 0)), D.i (D.int (fn 33 [[D.i a0], [D.l a1]] 0 1)), D.l (D.rows (fn 33 [[D.i a0], [D.l a1]] 0 2))]] 0 0) = true) → ((D.int (fn 32 [[D.i a0], [D.l (D.rows (fn 28 [[D.l a1]] 0 0))]] 1 0)) = (D.int (fn 33 [[D.i a0], [D.l a1]] 1 0))) → pre 35 [[D.l a2], [D.i a3]]
  g16 : (D.boo (fn 28 [[D.l a1]] 1 0) = true) → (¬ 40 < (a2.length : Int)) → (D.boo (fn 31 [[D.l (D.rows (fn 29 [[D.l (D.rows (fn 28 [[D.l a1]] 0 0))], [D.l a2]] 0 0))], [D.l (D.rows (fn 30 [[D.l a1], [D.l a2]] 0 0))]] 0 0) = true) → ((D.int (fn 29 [[D.l (D.rows (fn 28 [[D.l a1]] 0 0))], [D.l a2]] 1 0)) = (D.int (fn 30 [[D.l a1], [D.l a2]] 1 0))) → (D.boo (fn 34 [[D.l (D.rows (fn 32 [[D.i a0], [D.l (D.rows (fn 28 [[D.l a1]] 0 0))]] 0 0)), D.i (D.int (fn 32 [[D.i a0], [D.l (D.rows (fn 28 [[D.l a1]] 0 0))]] 0 1)), D.l (D.rows (fn 32 [[D.i a0], [D.l (D.rows (fn 28 [[D.l a1]] 0 0))]] 0 2))], [D.l (D.rows (fn 33 [[D.i a0], [D.l a1]] 0 0)), D.i (D.int (fn 33 [[D.i a0], [D.l a1]] 0 1)), D.l (D.rows (fn 33 [[D.i a0], [D.l a1]] 0 2))]] 0 0) = true) → ((D.int (fn 32 [[D.i a0], [D.l (D.rows (fn 28 [[D.l a1]] 0 0))]] 1 0)) = (D.int (fn 33 [[D.i a0], [D.l a1]] 1 0))) → pre 36 [[D.l a2], [D.i a3]]
  g17 : (D.boo (fn 28 [[D.l a1]] 1 0) = true) → (¬ 40 < (a2.length : Int)) → (D.boo (fn 31 [[D.l (D.rows (fn 29 [[D.l (D.rows (fn 28 [[D.l a1]] 0 0))], [D.l a2]] 0 0))], [D.l (D.rows (fn 30 [[D.l a1], [D.l a2]] 0 0))]] 0 0) = true) → ((D.int (fn 29 [[D.l (D.rows (fn 28 [[D.l a1]] 0 0))], [D.l a2]] 1 0)) = (D.int (fn 30 [[D.l a1], [D.l a2]] 1 0))) → (D.boo (fn 34 [[D.l (D.rows (fn 32 [[D.i a0], [D.l (D.rows (fn 28 [[D.l a1]] 0 0))]] 0 0)), D.i (D.int (fn 32 [[D.i a0], [D.l (D.rows (fn 28 [[D.l a1]] 0 0))]] 0 1)), D.l (D.rows (fn 32 [[D.i a0], [D.l (D.rows (fn 28 [[D.l a1]] 0 0))]] 0 2))], [D.l (D.rows (fn 33 [[D.i a0], [D.l a1]] 0 0)), D.i (D.int (fn 33 [[D.i a0], [D.l a1]] 0 1)), D.l (D.rows (fn 33 [[D.i a0], [D.l a1]] 0 2))]] 0 0) = true) → ((D.int (fn 32 [[D.i a0], [D.l (D.rows (fn 28 [[D.l a1]] 0 0))]] 1 0)) = (D.int (fn 33 [[D.i a0], [D.l a1]] 1 0))) → pre 21 [[D.l (D.rows (fn 35 [[D.l a2], [D.i a3]] 0 0))], [D.l (D.rows (fn 36 [[D.l a2], [D.i a3]] 0 0))]]
  g18 : (D.boo (fn 28 [[D.l a1]] 1 0) = true) → (¬ 40 < (a2.length : Int)) → (D.boo (fn 31 [[D.l (D.rows (fn 29 [[D.l (D.rows (fn 28 [[D.l a1]] 0 0))], [D.l a2]] 0 0))], [D.l (D.rows (fn 30 [[D.l a1], [D.l a2]] 0 0))]] 0 0) = true) → ((D.int (fn 29 [[D.l (D.rows (fn 28 [[D.l a1]] 0 0))], [D.l a2]] 1 0)) = (D.int (fn 30 [[D.l a1], [D.l a2]] 1 0))) → (D.boo (fn 34 [[D.l (D.rows (fn 32 [[D.i a0], [D.l (D.rows (fn 28 [[D.l a1]] 0 0))]] 0 0)), D.i (D.int (fn 32 [[D.i a0], [D.l (D.rows (fn 28 [[D.l a1]] 0 0))]] 0 1)), D.l (D.rows (fn 32 [[D.i a0], [D.l (D.rows (fn 28 [[D.l a1]] 0 0))]] 0 2))], [D.l (D.rows (fn 33 [[D.i a0], [D.l a1]] 0 0)), D.i (D.int (fn 33 [[D.i a0], [D.l a1]] 0 1)), D.l (D.rows (fn 33 [[D.i a0], [D.l a1]] 0 2))]] 0 0) = true) → ((D.int (fn 32 [[D.i a0], [D.l (D.rows (fn 28 [[D.l a1]] 0 0))]] 1 0)) = (D.int (fn 33 [[D.i a0], [D.l a1]] 1 0))) → (D.boo (fn 21 [[D.l (D.rows (fn 35 [[D.l a2], [D.i a3]] 0 0))], [D.l (D.rows (fn 36 [[D.l a2], [D.i a3]] 0 0))]] 0 0) = true) → ((D.int (fn 35 [[D.l a2], [D.i a3]] 1 0)) = (D.int (fn 36 [[D.l a2], [D.i a3]] 1 0))) → pre 18 []
  g19 : (D.boo (fn 28 [[D.l a1]] 1 0) = true) → (¬ 40 < (a2.length : Int)) → (D.boo (fn 31 [[D.l (D.rows (fn 29 [[D.l (D.rows (fn 28 [[D.l a1]] 0 0))], [D.l a2]] 0 0))], [D.l (D.rows (fn 30 [[D.l a1], [D.l a2]] 0 0))]] 0 0) = true) → ((D.int (fn 29 [[D.l (D.rows (fn 28 [[D.l a1]] 0 0))], [D.l a2]] 1 0)) = (D.int (fn 30 [[D.l a1], [D.l a2]] 1 0))) → (D.boo (fn 34 [[D.l (D.rows (fn 32 [[D.i a0], [D.l (D.rows (fn 28 [[D.l a1]] 0 0))]] 0 0)), D.i (D.int (fn 32 [[D.i a0], [D.l (D.rows (fn 28 [[D.l a1]] 0 0))]] 0 1)), D.l (D.rows (fn 32 [[D.i a0], [D.l (D.rows (fn 28 [[D.l a1]] 0 0))]] 0 2))], [D.l (D.rows (fn 33 [[D.i a0], [D.l a1]] 0 0)), D.i (D.int (fn 33 [[D.i a0], [D.l a1]] 0 1)), D.l (D.rows (fn 33 [[D.i a0], [D.l a1]] 0 2))]] 0 0) = true) → ((D.int (fn 32 [[D.i a0], [D.l (D.rows (fn 28 [[D.l a1]] 0 0))]] 1 0)) = (D.int (fn 33 [[D.i a0], [D.l a1]] 1 0))) → (D.boo (fn 21 [[D.l (D.rows (fn 35 [[D.l a2], [D.i a3]] 0 0))], [D.l (D.rows (fn 36 [[D.l a2], [D.i a3]] 0 0))]] 0 0) = true) → ((D.int (fn 35 [[D.l a2], [D.i a3]] 1 0)) = (D.int (fn 36 [[D.l a2], [D.i a3]] 1 0))) → R 0 0 = D.b (D.boo (fn 18 [] 0 0))
  g20 : (D.boo (fn 28 [[D.l a1]] 1 0) = true) → (¬ 40 < (a2.length : Int)) → (D.boo (fn 31 [[D.l (D.rows (fn 29 [[D.l (D.rows (fn 28 [[D.l a1]] 0 0))], [D.l a2]] 0 0))], [D.l (D.rows (fn 30 [[D.l a1], [D.l a2]] 0 0))]] 0 0) = true) → ((D.int (fn 29 [[D.l (D.rows (fn 28 [[D.l a1]] 0 0))], [D.l a2]] 1 0)) = (D.int (fn 30 [[D.l a1], [D.l a2]] 1 0))) → (D.boo (fn 34 [[D.l (D.rows (fn 32 [[D.i a0], [D.l (D.rows (fn 28 [[D.l a1]] 0 0))]] 0 0)), D.i (D.int (fn 32 [[D.i a0], [D.l (D.rows (fn 28 [[D.l a1]] 0 0))]] 0 1)), D.l (D.rows (fn 32 [[D.i a0], [D.l (D.rows (fn 28 [[D.l a1]] 0 0))]] 0 2))], [D.l (D.rows (fn 33 [[D.i a0], [D.l a1]] 0 0)), D.i (D.int (fn 33 [[D.i a0], [D.l a1]] 0 1)), D.l (D.rows (fn 33 [[D.i a0], [D.l a1]] 0 2))]] 0 0) = true) → ((D.int (fn 32 [[D.i a0], [D.l (D.rows (fn 28 [[D.l a1]] 0 0))]] 1 0)) = (D.int (fn 33 [[D.i a0], [D.l a1]] 1 0))) → (D.boo (fn 21 [[D.l (D.rows (fn 35 [[D.l a2], [D.i a3]] 0 0))], [D.l (D.rows (fn 36 [[D.l a2], [D.i a3]] 0 0))]] 0 0) = true) → (¬ (D.int (fn 35 [[D.l a2], [D.i a3]] 1 0)) = (D.int (fn 36 [[D.l a2], [D.i a3]] 1 0))) → R 0 0 = D.b false
  g21 : (D.boo (fn 28 [[D.l a1]] 1 0) = true) → (¬ 40 < (a2.length : Int)) → (D.boo (fn 31 [[D.l (D.rows (fn 29 [[D.l (D.rows (fn 28 [[D.l a1]] 0 0))], [D.l a2]] 0 0))], [D.l (D.rows (fn 30 [[D.l a1], [D.l a2]] 0 0))]] 0 0) = true) → ((D.int (fn 29 [[D.l (D.rows (fn 28 [[D.l a1]] 0 0))], [D.l a2]] 1 0)) = (D.int (fn 30 [[D.l a1], [D.l a2]] 1 0))) → (D.boo (fn 34 [[D.l (D.rows (fn 32 [[D.i a0], [D.l (D.rows (fn 28 [[D.l a1]] 0 0))]] 0 0)), D.i (D.int (fn 32 [[D.i a0], [D.l (D.rows (fn 28 [[D.l a1]] 0 0))]] 0 1)), D.l (D.rows (fn 32 [[D.i a0], [D.l (D.rows (fn 28 [[D.l a1]] 0 0))]] 0 2))], [D.l (D.rows (fn 33 [[D.i a0], [D.l a1]] 0 0)), D.i (D.int (fn 33 [[D.i a0], [D.l a1]] 0 1)), D.l (D.rows (fn 33 [[D.i a0], [D.l a1]] 0 2))]] 0 0) = true) → ((D.int (fn 32 [[D.i a0], [D.l (D.rows (fn 28 [[D.l a1]] 0 0))]] 1 0)) = (D.int (fn 33 [[D.i a0], [D.l a1]] 1 0))) → (D.boo (fn 21 [[D.l (D.rows (fn 35 [[D.l a2], [D.i a3]] 0 0))], [D.l (D.rows (fn 36 [[D.l a2], [D.i a3]] 0 0))]] 0 0) = false) → R 0 0 = D.b false
end HX

namespace HX
open Go Go.Proofs CX
set_option maxHeartbeats 4000000 in
set_option maxRecDepth 100000 in
theorem walk5 {ro A pre fn} (hE : EnvOk ⟨A, (cxE ro), ksF, sigL [(18, ⟨[], [(false, [.bool])], false⟩), (21, ⟨[(false, [.sl [.int .i64, .int .i64]]), (false, [.sl [.int .i64, .int .i64]])], [(false, [.bool])], false⟩), (28, ⟨[(false, [.sl [.sl [.sl [.int .i64]], .sl [.int .i64]]])], [(false, [.sl [.sl [.sl [.int .i64]], .sl [.int .i64]]]), (false, [.bool])], false⟩), (29, ⟨[(false, [.sl [.sl [.sl [.int .i64]], .sl [.int .i64]]]), (false, [.sl [.bool]])], [(false, [.sl [.bool]]), (false, [.int .i64])], false⟩), (30, ⟨[(false, [.sl [.sl [.sl [.int .i64]], .sl [.int .i64]]]), (false, [.sl [.bool]])], [(false, [.sl [.bool]]), (false, [.int .i64])], false⟩), (31, ⟨[(false, [.sl [.bool]]), (false, [.sl [.bool]])], [(false, [.bool])], false⟩), (32, ⟨[(false, [.int .i64]), (false, [.sl [.sl [.sl [.int .i64]], .sl [.int .i64]]])], [(true, [.sl [.int .i64, .int .i64, .int .i64, .int .i64, .int .i64, .int .i64, .int .i64, .int .i64], .int .i64, .sl [.int .i64, .int .i64, .int .i64, .int .i64]]), (false, [.int .i64])], false⟩), (33, ⟨[(false, [.int .i64]), (false, [.sl [.sl [.sl [.int .i64]], .sl [.int .i64]]])], [(true, [.sl [.int .i64, .int .i64, .int .i64, .int .i64, .int .i64, .int .i64, .int .i64, .int .i64], .int .i64, .sl [.int .i64, .int .i64, .int .i64, .int .i64]]), (false, [.int .i64])], false⟩), (34, ⟨[(true, [.sl [.int .i64, .int .i64, .int .i64, .int .i64, .int .i64, .int .i64, .int .i64, .int .i64], .int .i64, .sl [.int .i64, .int .i64, .int .i64, .int .i64]]), (true, [.sl [.int .i64, .int .i64, .int .i64, .int .i64, .int .i64, .int .i64, .int .i64, .int .i64], .int .i64, .sl [.int .i64, .int .i64, .int .i64, .int .i64]])], [(false, [.bool])], false⟩), (35, ⟨[(false, [.sl [.bool]]), (false, [.int .i64])], [(false, [.sl [.int .i64, .int .i64]]), (false, [.int .i64])], false⟩), (36, ⟨[(false, [.sl [.bool]]), (false, [.int .i64])], [(false, [.sl [.int .i64, .int .i64]]), (false, [.int .i64])], false⟩)], pre, fn⟩) {P : List (List D) → Prop} {res : List (List D) → Nat → Nat → D}
    (hv : ∀ (a0 : Int) (a1 : Rows) (a2 : Rows) (a3 : Int), ShR [.sl [.sl [.int .i64]], .sl [.int .i64]] a1 → ShR [.bool] a2 → P [[.i a0], [.l a1], [.l a2], [.i a3]] → V5 pre fn a0 a1 a2 a3 (res [[.i a0], [.l a1], [.l a2], [.i a3]]) ) :
    PureC0 (cxE ro) 5 ⟨[(false, [.int .i64]), (false, [.sl [.sl [.sl [.int .i64]], .sl [.int .i64]]]), (false, [.sl [.bool]]), (false, [.int .i64])], [(false, [.bool])], false⟩ P res := by
  have hA := hE.A
  simp only [] at hA
  have hinl : ∀ f fn, inlL [] f = some fn → (cxE ro).fn f = some fn ∧ (cxE ro).ext f = none := Inls.ok (by repeat (first | exact .nil | refine .cons rfl rfl ?_))
  refine PureC0.of_vc hE hinl 6 (f := 5) (fn := Tryz.f5) ⟨rfl, rfl⟩ ?_
  intro a0 a1 ha1 a2 ha2 a3 hP
  obtain ⟨R, hR⟩ : ∃ R, res [[.i a0], [.l a1], [.l a2], [.i a3]] = R := ⟨_, rfl⟩
  rw [hR]
  have hV := hv a0 a1 a2 a3 ha1 ha2 hP
  rw [hR] at hV
  clear hR hP hv
  cbv
  repeat' (first | (refine Br.mk (fun _ => ?_) (fun _ => ?_) <;> cbv) | (refine NilB.mk (fun _ => ?_) ?_ <;> cbv) | refine And.intro ?_ ?_ | exact True.intro)
  · subst hA; exact hV.g0
  · rename_i hp1_0
    subst hA; exact hV.g1 (nt hp1_0)
  · rename_i hp2_0
    subst hA; exact hV.g2 (nt hp2_0)
  · rename_i hp3_0 hp3_1
    subst hA; exact hV.g3 (nf hp3_0) (dt hp3_1)
  · rename_i hp4_0 hp4_1
    subst hA; exact hV.g4 (nf hp4_0) (dt hp4_1)
  · rename_i hp5_0 hp5_1
    subst hA; exact hV.g5 (nf hp5_0) (df hp5_1)
  · rename_i hp6_0 hp6_1
    subst hA; exact hV.g6 (nf hp6_0) (df hp6_1)
  · rename_i hp7_0 hp7_1
    subst hA; exact hV.g7 (nf hp7_0) (df hp7_1)
  · rename_i hp8_0 hp8_1 hp8_2
    subst hA; exact hV.g8 (nf hp8_0) (df hp8_1) (nt hp8_2)
  · rename_i hp9_0 hp9_1 hp9_2 hp9_3
    subst hA; exact hV.g9 (nf hp9_0) (df hp9_1) (nf hp9_2) (df (nt hp9_3))
  · rename_i hp10_0 hp10_1 hp10_2 hp10_3
    subst hA; exact hV.g10 (nf hp10_0) (df hp10_1) (nf hp10_2) (dt (nf hp10_3))
  · rename_i hp11_0 hp11_1 hp11_2 hp11_3
    subst hA; exact hV.g11 (nf hp11_0) (df hp11_1) (nf hp11_2) (dt (nf hp11_3))
  · rename_i hp12_0 hp12_1 hp12_2 hp12_3
    subst hA; exact hV.g12 (nf hp12_0) (df hp12_1) (nf hp12_2) (dt (nf hp12_3))
  · rename_i hp13_0 hp13_1 hp13_2 hp13_3 hp13_4
    subst hA; exact hV.g13 (nf hp13_0) (df hp13_1) (nf hp13_2) (dt (nf hp13_3)) (nt hp13_4)
  · rename_i hp14_0 hp14_1 hp14_2 hp14_3 hp14_4 hp14_5
    subst hA; exact hV.g14 (nf hp14_0) (df hp14_1) (nf hp14_2) (dt (nf hp14_3)) (nf hp14_4) (df (nt hp14_5))
  · rename_i hp15_0 hp15_1 hp15_2 hp15_3 hp15_4 hp15_5
    subst hA; exact hV.g15 (nf hp15_0) (df hp15_1) (nf hp15_2) (dt (nf hp15_3)) (nf hp15_4) (dt (nf hp15_5))
  · rename_i hp16_0 hp16_1 hp16_2 hp16_3 hp16_4 hp16_5
    subst hA; exact hV.g16 (nf hp16_0) (df hp16_1) (nf hp16_2) (dt (nf hp16_3)) (nf hp16_4) (dt (nf hp16_5))
  · rename_i hp17_0 hp17_1 hp17_2 hp17_3 hp17_4 hp17_5
    subst hA; exact hV.g17 (nf hp17_0) (df hp17_1) (nf hp17_2) (dt (nf hp17_3)) (nf hp17_4) (dt (nf hp17_5))
  · rename_i hp18_0 hp18_1 hp18_2 hp18_3 hp18_4 hp18_5 hp18_6 hp18_7
    subst hA; exact hV.g18 (nf hp18_0) (df hp18_1) (nf hp18_2) (dt (nf hp18_3)) (nf hp18_4) (dt (nf hp18_5)) hp18_6 (dt hp18_7)
  · rename_i hp19_0 hp19_1 hp19_2 hp19_3 hp19_4 hp19_5 hp19_6 hp19_7
    subst hA; exact hV.g19 (nf hp19_0) (df hp19_1) (nf hp19_2) (dt (nf hp19_3)) (nf hp19_4) (dt (nf hp19_5)) hp19_6 (dt hp19_7)
  · rename_i hp20_0 hp20_1 hp20_2 hp20_3 hp20_4 hp20_5 hp20_6 hp20_7
    subst hA; exact hV.g20 (nf hp20_0) (df hp20_1) (nf hp20_2) (dt (nf hp20_3)) (nf hp20_4) (dt (nf hp20_5)) hp20_6 (df hp20_7)
  · rename_i hp21_0 hp21_1 hp21_2 hp21_3 hp21_4 hp21_5 hp21_6
    subst hA; exact hV.g21 (nf hp21_0) (df hp21_1) (nf hp21_2) (dt (nf hp21_3)) (nf hp21_4) (dt (nf hp21_5)) hp21_6
end HX

namespace HX
open Go Go.Proofs CX

theorem tyB_ok : tyB.All (fun t ty => CX.env.T t = some ty) := by
  unfold tyB
  simp only [BT.All, true_and, and_true]
  repeat' apply And.intro
  all_goals rfl

theorem cxE_ok (ro : Addr → Option V) : CX.EnvOk (cxE ro) Tryz.prog := by
  refine ⟨fun t ty h => CX.env_ok.T t ty (tyB_ok.get h), fun f fn h => CX.env_ok.fn f fn h, CX.env_ok.mixed, fun f b h w => ?_⟩
  simp only [cxE, extF] at h
  split at h
  · rename_i hb
    simp only [beqN_iff] at hb
    simp only [Option.some.injEq] at h
    subst hb h
    exact (CX.works_ok w).mono fun e w' ⟨h1, h2, h3, h4, h5, h6⟩ => ⟨h1, h2, h3, h4, h5, h6⟩
  · cases h

theorem hxT {ro : Addr → Option V} : TOk (cxE ro) := TOk.of (cxE_ok ro)

theorem hxEnv {ro : Addr → Option V} {sig : Nat → Option Sig} {pre : Nat → List (List D) → Prop} {fn : Nat → List (List D) → Nat → Nat → D} (h : ∀ f sg, sig f = some sg → PureC (cxE ro) f sg (pre f) (fn f)) : EnvOk ⟨Ar.std, cxE ro, ksF, sig, pre, fn⟩ := ⟨rfl, hxT, h⟩

theorem works_pure {ro : Addr → Option V} : PureC (cxE ro) 18 ⟨[], [(false, [.bool])], false⟩ (fun _ => True) (fun _ _ _ => .b true) := by
  intro ds _ g bar nx h args hg hbar ha
  cases args with
  | cons _ _ => cases ds <;> simp [ArgsFz] at ha
  | nil =>
    have hfn : ∃ fn c, (cxE ro).fn 18 = some fn ∧ fn.body = some c := ⟨_, _, rfl, rfl⟩
    obtain ⟨fn, c, h1, h2⟩ := hfn
    refine ⟨[.bool true], h, nx, g, Evt.of fun n k => ?_, Nat.le_refl _, fun _ _ => rfl, fun _ _ h => h, fun id o hgo => ⟨hg id o hgo, .inl hgo⟩, ⟨[.bool true], rfl, fun j k hj => ?_, _, rfl, rfl⟩, trivial⟩
    · have hx : (cxE ro).ext 18 = some true := rfl
      simp only [callF, h1, h2, hx]
      rfl
    · cases j with
      | zero =>
        simp only [List.getElem?_cons_zero, Option.some.injEq] at hj
        subst hj
        exact ⟨_, rfl, by simp only [FzC]; exact ⟨⟨_, rfl⟩, rfl⟩⟩
      | succ j => simp at hj

theorem call_ro {P : Program} {E : CX.Env} (hE : CX.EnvOk E P) {f : FuncId} {n : Nat} {v : V} {args : List V} {xs : List Value} {h' : T O} {nx' : Nat} {w : World} (hro : RoAt E.ro w) (ha : RvL (fun _ => none) 0 args xs)
    (h : callF E (cx E n) 0 .e 0 f args (fun v h nx => retV v h nx) = retV v h' nx') :
    Calls P f xs.toArray w fun e w' => ∃ u ρ n, e = .returned u ∧ Rv ρ n v u ∧ Kept w w' := by
  obtain ⟨v', g', n', fn, h1, _, _, h2⟩ := callF_ok hE (cx_ok hE n).1 (ρ := fun _ => none) (n := 0) (bar := 0) (g := .e) (w := w) (xs := xs) ⟨hro, fun a v h id o L _ _ hL => by cases hL⟩ ⟨fun id o h => by simp [T.get] at h, fun id o id' o' h => by simp [T.get] at h, fun _ _ => rfl, fun _ _ h => by cases h⟩ ha h
  have e : v' = v := by
    simp only [retV, Option.some.injEq, Prod.mk.injEq, CX.St.mk.injEq, CX.T.n.injEq, true_and, and_true] at h1
    exact h1.1
  subst e
  refine (callsIn_wide.1 (h2 none)).mono fun e w' he => ?_
  obtain ⟨u, ρ', rfl, d1, _, _, _, d5⟩ := he
  refine ⟨u, ρ', n', rfl, d1, d5.os, d5.tape, d5.output, d5.size, fun b hb => d5.keep b hb ?_⟩
  rintro ⟨id, o, L, _, h, _⟩
  simp [T.get] at h
end HX

namespace CX
open Go Go.ChangeShapes Go.WideShapes

theorem Kept.frozen {w w' : World} (h : Kept w w') {a : Addr} (ha : a.block < w.heap.size) : w'.frozen? a = w.frozen? a := by
  simp only [World.frozen?, h.2.2.2.2 a.block ha]

theorem Kept.but {w w' : World} (h : Kept w w') (may : MemPlace → Prop) : w.keptBut w' may := by
  refine ⟨h.1, h.2.2.1, fun i hi => ?_⟩
  rw [h.2.2.2.2 i hi]
  obtain ⟨o, ho⟩ : ∃ o, w.heap[i]? = some o := ⟨w.heap[i], by simp [hi]⟩
  rw [ho]
  cases o with
  | cells c t fr => exact ⟨rfl, rfl, rfl, fun _ _ => rfl⟩
  | map es c => exact .inr ⟨rfl, rfl⟩
  | _ => rfl

section
variable {H : Type} {enc : TypeId × Value → H} {P : Program}

theorem post_kept {f : Func} {s : ChangeSpec} {apart fresh handsOn again : Bool} {W W' : World} {args : Array Value} {v : Value} {ds gs : List (DataW H)} {before pa pv : List MemPlace}
    (hW : DataW.Whole enc P f.params.toList s.vars apart W args.toList ds gs before)
    (hres : ∀ (b : Nat) (sp : Nat → Bool) (hd : Bool), DataW.TrodAll enc P W' b sp hd f.resultTypes.toList (v.resultList f.resultTypes.size) (s.fn H (ds ++ gs)).results [])
    (hargs : ∀ sp : Nat → Bool, (∀ p ∈ before, sp p.block = true) → DataW.TrodAll enc P W' 0 sp true f.params.toList args.toList (s.fn H (ds ++ gs)).args pa)
    (hvars : ∀ sp : Nat → Bool, (∀ p ∈ before, sp p.block = true) → DataW.TrodVars enc P W' sp s.vars (s.fn H (ds ++ gs)).vars pv)
    (hps : before = pa ++ pv) (hk : Kept W W')
    (hok : ∀ (j : Nat) (t : TypeId) (r : Value), f.resultTypes[j]? = some t → (v.resultList f.resultTypes.size)[j]? = some r → Value.okWide P W' .any 0 t r) :
    s.post enc P f apart fresh handsOn again W args v W' := by
  have hold : ∀ p ∈ before, (fun b => decide (b < W.heap.size)) p.block = true := fun p hp => by simpa using hW.lt p hp
  have hlt := hW.lt
  refine ⟨ds, gs, before, [], pa, pv, hW, hres _ _ _, hargs _ hold, hvars _ hold, World.keptBut_mono (fun p hp => ⟨hp, ?_⟩) (hk.but (· ∈ before)), fun _ => ?_⟩
  · rw [hps, List.mem_append] at hp
    exact Or.inr hp
  · obtain ⟨_, _, _, _, _, hz, hn⟩ := hW
    refine ⟨hok, _, _, ([] ++ pa) ++ pv, ⟨[] ++ pa, pv, trodAll_append (hargs _ (fun _ _ => rfl)) (hres _ _ _), hvars _ (fun _ _ => rfl), rfl, ?_, ?_⟩, ?_⟩
    · intro b off hp
      have hp' : MemPlace.cell b off ∈ before := by rw [hps]; simpa using hp
      rw [hk.frozen (hlt _ hp')]
      exact hz b off hp'
    · intro ha
      have := hn ha
      rw [hps] at this
      simpa using this
    · intro p hp _
      rw [hps]
      simpa using hp
end
end CX

namespace HB
open Go Go.ChangeShapes Go.WideShapes Go.ChangeAt Go.RowKit

theorem add_block (a : Addr) (n : Nat) : (a.add n).block = a.block := by unfold Addr.add; split <;> rfl
theorem addr_add2 (a : Addr) (i c : Nat) : (a.add i).add c = a.add (i + c) := by
  unfold Addr.add
  by_cases hi : i = 0
  · subst hi; simp
  · by_cases hc : c = 0
    · subst hc; simp [hi]
    · simp [hi, hc, Nat.add_assoc]

theorem mapM_at {α β : Type} {f : α → Option β} : ∀ {l : List α} {r : List β}, l.mapM f = some r → r.length = l.length ∧ ∀ (i : Nat) (h : i < l.length), ∃ y, f l[i] = some y ∧ r[i]? = some y
  | [], r, h => by
    simp only [List.mapM_nil, Option.pure_def, Option.some.injEq] at h
    subst h
    exact ⟨rfl, fun i h => by simp at h⟩
  | x :: xs, r, h => by
    rw [List.mapM_cons] at h
    cases hx : f x with
    | none => simp [hx] at h
    | some y =>
      cases hxs : xs.mapM f with
      | none => simp [hx, hxs] at h
      | some ys =>
        simp only [hx, hxs, Option.bind_eq_bind, Option.bind_some, Option.pure_def, Option.some.injEq] at h
        subst h
        obtain ⟨h1, h2⟩ := mapM_at hxs
        refine ⟨by simp [h1], fun i hi => ?_⟩
        cases i with
        | zero => exact ⟨y, by simpa using hx, by simp⟩
        | succ i =>
          obtain ⟨z, e1, e2⟩ := h2 i (by simpa using hi)
          exact ⟨z, by simpa using e1, by simpa using e2⟩

theorem cells_get {w : World} {base : Nat} {a : Addr} {n : Nat} {cs : List Value} (h : w.cells? base a n = some cs) : cs.length = n ∧ (0 < n → a.block < w.heap.size) ∧ ∀ c, c < n → w.cell? (a.add c) = cs[c]? := by
  unfold World.cells? at h
  split at h
  · obtain ⟨h1, h2⟩ := mapM_at h
    rw [List.length_range] at h1
    have key : ∀ c, c < n → w.cell? (a.add c) = cs[c]? := fun c hc => by
      obtain ⟨y, e1, e2⟩ := h2 c (by simpa using hc)
      rw [List.getElem_range] at e1
      rw [e1, e2]
    refine ⟨h1, fun h0 => ?_, key⟩
    obtain ⟨y, e1, _⟩ := h2 0 (by simpa using h0)
    rw [List.getElem_range] at e1
    rcases Nat.lt_or_ge a.block w.heap.size with hb | hb
    · exact hb
    · exfalso
      unfold World.cell? at e1
      rw [add_block] at e1
      rw [Array.getElem?_eq_none (by omega)] at e1
      cases e1
  · cases h

section
variable {H : Type} {enc : TypeId × Value → H} {P : Program} {w : World} {base : Nat} {spare : Nat → Bool} {held : Bool}
theorem wf_rng {k : IntKind} {n : Int} (h : (Lit.int k n).wf = true) : k.min ≤ n ∧ n ≤ k.max := by
  simpa [Lit.wf] using h

theorem trod_array {t e : TypeId} {n m : Nat} {cs : List Value} {x : DataW H × List MemPlace} (ht : P.underlying t = some (.array n e)) (h : DataW.trod enc P w base spare held (m + 1) t cs = some x) :
    cs.length = P.cellsOf t ∧ ∀ i, i < n → ∃ y, DataW.trod enc P w base spare held m e ((cs.drop (i * P.cellsOf e)).take (P.cellsOf e)) = some y := by
  unfold DataW.trod at h
  rw [ht] at h
  split at h <;> simp_all
  obtain ⟨hl, h⟩ := h
  obtain ⟨a, h, _⟩ := h
  obtain ⟨h1, h2⟩ := mapM_at h
  intro i hi
  obtain ⟨y, e1, _⟩ := h2 i (by simpa using hi)
  rw [List.getElem_range] at e1
  exact ⟨y.1, y.2, by simpa using e1⟩

def isAgg (P : Program) (t : TypeId) : Bool := match P.underlying t with
  | some (.struct _) => true
  | some (.array _ _) => true
  | _ => false

theorem Kept_same {W W' : World} (h : CX.Kept W W') {p : MemPlace} (hp : p.block < W.heap.size) : W.sameAt W' p := by
  cases p with
  | cell b off =>
    simp only [World.sameAt, World.cell?]
    rw [h.2.2.2.2 b hp]
  | map b => exact h.2.2.2.2 b hp

theorem args_stay (hl : laidOutB P = true) {W W' : World} {sp : Nat → Bool} : ∀ {ts : List TypeId} {vs : List Value} {ds : List (DataW H)} {ps : List MemPlace}, (ts.all fun t => P.readableRec t && decide (t < P.types.size)) = true →
    DataW.TrodAll enc P W base (fun _ => true) true ts vs ds ps → (∀ p ∈ ps, W.sameAt W' p) → (∀ p ∈ ps, sp p.block = true) → DataW.TrodAll enc P W' base sp true ts vs ds ps
  | [], vs, ds, ps, _, h, _, _ => by
    obtain ⟨rfl, rfl, rfl⟩ := trodAll_nil h
    exact trodAll_mk0
  | t :: ts, [], ds, ps, _, h, _, _ => by simp [DataW.TrodAll] at h
  | t :: ts, v :: vs, [], ps, _, h, _, _ => by simp [DataW.TrodAll] at h
  | t :: ts, v :: vs, d :: ds, ps, hr, h, h1, h2 => by
    obtain ⟨p, q, ha, hb, rfl⟩ := h
    simp only [List.all_cons, Bool.and_eq_true, decide_eq_true_eq] at hr
    exact ⟨p, q, Go.WideElems.Trod_stays hl hr.1.1 hr.1.2 ha (fun x hx => h1 x (by simp [hx])) (fun x hx => h2 x (by simp [hx])),
      args_stay hl (by simpa using hr.2) hb (fun x hx => h1 x (by simp [hx])) (fun x hx => h2 x (by simp [hx])), rfl⟩

end
end HB

namespace HX
open Go Go.Proofs Go.ChangeShapes Go.WideShapes Go.ChangeAt Go.RowKit CX

def descF (g : TypeId → Option (List Kd)) (P : Program) : List Field → Nat → Option (List Kd)
  | [], _ => some []
  | f :: r, off => match g f.type with
    | some ks => match beqN f.offset off && beqN (P.cellsOf f.type) ks.length with
      | true => match descF g P r (off + ks.length) with
        | some ks' => some (ks ++ ks')
        | none => none
      | false => none
    | none => none

def repK (ks : List Kd) : Nat → List Kd
  | 0 => []
  | n + 1 => ks ++ repK ks n

def desc (P : Program) : Nat → TypeId → Option (List Kd)
  | 0, _ => none
  | n + 1, t => match P.underlying t with
    | some .bool => some [.bool]
    | some (.int k) => some [.int k]
    | some .string => some [.str]
    | some (.slice e) => match desc P n e with
      | some (k :: ks) => match beqN (P.cellsOf e) (ks.length + 1) with
        | true => some [.sl (k :: ks)]
        | false => none
      | _ => none
    | some (.struct fs) => match descF (desc P n) P fs.toList 0 with
      | some ks => match beqN (P.cellsOf t) ks.length with
        | true => some ks
        | false => none
      | none => none
    | some (.array m e) => match desc P n e with
      | some ks => match beqN (P.cellsOf e) ks.length && beqN (P.cellsOf t) (repK ks m).length with
        | true => some (repK ks m)
        | false => none
      | none => none
    | _ => none

mutual
def RngK : Kd → D → Prop
  | .int k, d => k.min ≤ d.int ∧ d.int ≤ k.max
  | .str, d => ∀ b ∈ d.str, b < 256
  | .sl ks, d => ∀ row ∈ d.rows, RngL ks row
  | _, _ => True
def RngL : List Kd → List D → Prop
  | k :: ks, d :: ds => RngK k d ∧ RngL ks ds
  | _, _ => True
end

mutual
def RdK (w : World) : Kd → D → Value → Prop
  | .int k, d, u => (∃ n, d = .i n) ∧ u = .int k d.int
  | .bool, d, u => (∃ b, d = .b b) ∧ u = .bool d.boo
  | .str, d, u => (∃ s, d = .s s) ∧ u = .string (bytesOf d.str)
  | .fnc _, _, _ => False
  | .pt _, _, _ => False
  | .sl ks, d, u => (∃ rows, d = .l rows ∧ LenR ks rows) ∧ 0 < ks.length ∧ ((d.rows = [] ∧ u = .slice none 0 0) ∨ ∃ a cap, u = .slice (some a) d.rows.length cap ∧ d.rows.length ≤ cap ∧
      ∀ i row, d.rows[i]? = some row → ∃ cs : List Value, (∀ c, c < ks.length → w.cell? (a.add (i * ks.length + c)) = cs[c]?) ∧ RdL w ks row cs)
def RdL (w : World) : List Kd → List D → List Value → Prop
  | [], [], [] => True
  | k :: ks, d :: ds, c :: cs => RdK w k d c ∧ RdL w ks ds cs
  | _, _, _ => False
end

def Holds (w : World) (ks : List Kd) (cs : List Value) : Prop := ∃ l, RdL w ks l cs ∧ RngL ks l

theorem RdL.append {w : World} : ∀ {ks ks' : List Kd} {l l' : List D} {cs cs' : List Value}, RdL w ks l cs → RdL w ks' l' cs' → RdL w (ks ++ ks') (l ++ l') (cs ++ cs')
  | [], _, [], _, [], _, _, h => h
  | _ :: _, _, _ :: _, _, _ :: _, _, h, h' => by
    simp only [RdL, List.cons_append] at h ⊢
    exact ⟨h.1, RdL.append h.2 h'⟩
  | [], _, [], _, _ :: _, _, h, _ => by simp [RdL] at h
  | [], _, _ :: _, _, _, _, h, _ => by simp [RdL] at h
  | _ :: _, _, [], _, _, _, h, _ => by simp [RdL] at h
  | _ :: _, _, _ :: _, _, [], _, h, _ => by simp [RdL] at h

theorem RdL.len {w : World} : ∀ {ks : List Kd} {l : List D} {cs : List Value}, RdL w ks l cs → l.length = ks.length ∧ cs.length = ks.length
  | [], [], [], _ => ⟨rfl, rfl⟩
  | _ :: _, _ :: _, _ :: _, h => by
    simp only [RdL] at h
    have := RdL.len h.2
    exact ⟨by simp [this.1], by simp [this.2]⟩
  | [], [], _ :: _, h => by simp [RdL] at h
  | [], _ :: _, _, h => by simp [RdL] at h
  | _ :: _, [], _, h => by simp [RdL] at h
  | _ :: _, _ :: _, [], h => by simp [RdL] at h

theorem RngL.append : ∀ {ks ks' : List Kd} {l l' : List D}, l.length = ks.length → RngL ks l → RngL ks' l' → RngL (ks ++ ks') (l ++ l')
  | [], _, [], _, _, _, h => h
  | _ :: _, _, _ :: _, _, hl, h, h' => by
    simp only [RngL, List.cons_append] at h ⊢
    exact ⟨h.1, RngL.append (by simpa using hl) h.2 h'⟩
  | [], _, _ :: _, _, hl, _, _ => by simp at hl
  | _ :: _, _, [], _, hl, _, _ => by simp at hl

theorem Holds.append {w : World} {ks ks' : List Kd} {cs cs' : List Value} (h : Holds w ks cs) (h' : Holds w ks' cs') : Holds w (ks ++ ks') (cs ++ cs') := by
  obtain ⟨l, a, b⟩ := h
  obtain ⟨l', a', b'⟩ := h'
  exact ⟨l ++ l', a.append a', b.append a.len.1 b'⟩

theorem Holds.nil {w : World} : Holds w [] [] := ⟨[], trivial, trivial⟩

section
variable {H : Type} {enc : TypeId × Value → H} {P : Program} {w : World} {base : Nat} {spare : Nat → Bool} {held : Bool}

theorem holds_one {k : Kd} {d : D} {u : Value} (h : RdK w k d u) (hr : RngK k d) : Holds w [k] [u] := ⟨[d], ⟨h, trivial⟩, ⟨hr, trivial⟩⟩

theorem holds_rep {ks : List Kd} {cs : List Value} (m : Nat) (hl : cs.length = (repK ks m).length) (h : ∀ i, i < m → Holds w ks ((cs.drop (i * ks.length)).take ks.length)) : Holds w (repK ks m) cs := by
  induction m generalizing cs with
  | zero =>
    have : cs = [] := List.length_eq_zero_iff.1 (by simpa [repK] using hl)
    subst this
    exact Holds.nil
  | succ m ih =>
    have e : cs = cs.take ks.length ++ cs.drop ks.length := (List.take_append_drop _ _).symm
    rw [e]
    refine Holds.append (by simpa using h 0 (by omega)) (ih ?_ fun i hi => ?_)
    · simp only [List.length_drop, hl, repK, List.length_append]
      omega
    · have := h (i + 1) (by omega)
      rwa [List.drop_drop, show ks.length + i * ks.length = (i + 1) * ks.length by rw [Nat.add_mul]; omega]

theorem holds_fields {g : TypeId → Option (List Kd)} {cs : List Value} : ∀ (fs : List Field) (off : Nat) (ks : List Kd), descF g P fs off = some ks → cs.length = off + ks.length →
    (∀ f ∈ fs, ∀ ks', g f.type = some ks' → Holds w ks' ((cs.drop f.offset).take (P.cellsOf f.type))) → Holds w ks (cs.drop off)
  | [], off, ks, h, hl, _ => by
    simp only [descF, Option.some.injEq] at h
    subst h
    have : cs.drop off = [] := List.drop_eq_nil_of_le (by simp at hl; omega)
    rw [this]
    exact Holds.nil
  | f :: r, off, ks, h, hl, hf => by
    simp only [descF] at h
    split at h
    · rename_i ks1 hk
      split at h
      · rename_i hb
        simp only [Bool.and_eq_true, beqN_iff] at hb
        split at h
        · rename_i ks2 hks2
          simp only [Option.some.injEq] at h
          subst h
          have e : cs.drop off = (cs.drop off).take ks1.length ++ (cs.drop off).drop ks1.length := (List.take_append_drop _ _).symm
          rw [e]
          refine Holds.append ?_ ?_
          · have := hf f (by simp) ks1 hk
            rwa [hb.1, hb.2] at this
          · rw [List.drop_drop]
            exact holds_fields r (off + ks1.length) ks2 hks2 (by rw [hl, List.length_append]; omega) (fun f' hf' => hf f' (by simp [hf']))
        · cases h
      · cases h
    · cases h

theorem bytes_of (z : ByteArray) : bytesOf (z.data.toList.map UInt8.toNat) = z := by
  obtain ⟨d⟩ := z
  simp only [bytesOf, List.map_map]
  congr 1
  have : (UInt8.ofNat ∘ UInt8.toNat) = id := by funext x; simp
  rw [this]
  simp

theorem holds_of_trod : ∀ (n : Nat) (t : TypeId) (ks : List Kd), desc P n t = some ks → ∀ (m : Nat) (cs : List Value) (x : DataW H × List MemPlace), DataW.trod enc P w base spare held m t cs = some x → Holds w ks cs
  | 0, _, _, h, _, _, _, _ => by simp [desc] at h
  | n + 1, t, ks, h, m, cs, x, hx => by
    unfold desc at h
    split at h
    · rename_i hu
      simp only [Option.some.injEq] at h
      subst h
      obtain ⟨b, rfl, _⟩ := DataW.trod_bool hu hx
      exact holds_one (d := .b b) ⟨⟨_, rfl⟩, rfl⟩ trivial
    · rename_i k hu
      simp only [Option.some.injEq] at h
      subst h
      obtain ⟨z, rfl, _, hw⟩ := DataW.trod_int hu hx
      exact holds_one (d := .i z) ⟨⟨_, rfl⟩, rfl⟩ (HB.wf_rng hw)
    · rename_i hu
      simp only [Option.some.injEq] at h
      subst h
      obtain ⟨z, rfl, _, _⟩ := DataW.trod_string hu hx
      refine holds_one (d := .s (z.data.toList.map UInt8.toNat)) ⟨⟨_, rfl⟩, ?_⟩ ?_
      · show Value.string z = .string (bytesOf (z.data.toList.map UInt8.toNat))
        rw [bytes_of]
      · intro b hb
        obtain ⟨x, _, rfl⟩ := List.mem_map.1 (show b ∈ z.data.toList.map UInt8.toNat from hb)
        exact x.toNat_lt
    · rename_i e hu
      split at h
      · rename_i k ks' hd
        split at h
        · rename_i hb
          have hb : P.cellsOf e = ks'.length + 1 := by rw [beqN_iff] at hb; exact hb
          simp only [Option.some.injEq] at h
          subst h
          rcases DataW.trod_slice hu hx with ⟨rfl, _⟩ | ⟨a, len, cap, elems, rest, m', rfl, rfl, _, _, h2, h3, h4, h5, _, _⟩
          · exact holds_one (d := .l []) ⟨⟨_, rfl, fun _ h => (by cases h), by simp⟩, by simp, .inl ⟨rfl, rfl⟩⟩ (fun _ h => (by cases h))
          · have row : ∀ i, i < len → ∃ l cs', (∀ c, c < ks'.length + 1 → w.cell? (a.add (i * (ks'.length + 1) + c)) = cs'[c]?) ∧ RdL w (k :: ks') l cs' ∧ RngL (k :: ks') l := by
              intro i hi
              have e1 := h5 i hi
              rw [List.getElem?_eq_getElem (by omega)] at e1
              obtain ⟨cs', c1, c2⟩ := Option.bind_eq_some_iff.1 e1
              obtain ⟨d1, d2, d3⟩ := HB.cells_get c1
              rw [hb] at d1 d2 d3 c1
              obtain ⟨l, g1, g2⟩ := holds_of_trod n e (k :: ks') hd m' cs' _ c2
              refine ⟨l, cs', fun c hc => ?_, g1, g2⟩
              rw [← d3 c hc, HB.addr_add2]
            let rows : Rows := (List.range len).map fun i => if h : i < len then Classical.choose (row i h) else []
            have hlen : rows.length = len := by simp [rows]
            have hget : ∀ i r, rows[i]? = some r → ∃ h : i < len, r = Classical.choose (row i h) := by
              intro i r hr
              have hi : i < len := by rw [← hlen]; exact (List.getElem?_eq_some_iff.1 hr).1
              refine ⟨hi, ?_⟩
              simp only [rows, List.getElem?_map, List.getElem?_range hi, Option.map_some, Option.some.injEq] at hr
              rw [← hr, dif_pos hi]
            refine holds_one (d := .l rows) ⟨⟨_, rfl, fun r hr => ?_, ?_⟩, by simp, .inr ⟨a, cap, ?_, ?_, fun i r hr => ?_⟩⟩ (fun r hr => ?_)
            · obtain ⟨i, hi⟩ := List.getElem?_of_mem hr
              obtain ⟨h, rfl⟩ := hget i r hi
              obtain ⟨_, _, h6, _⟩ := Classical.choose_spec (row i h)
              exact h6.len.1
            · have h3 : cap ≤ 9223372036854775807 := h3
              rw [hlen]; omega
            · show Value.slice (some a) len cap = .slice (some a) rows.length cap
              rw [hlen]
            · show rows.length ≤ cap
              rw [hlen]; exact h2
            · obtain ⟨h, rfl⟩ := hget i r hr
              obtain ⟨cs', h5', h6, _⟩ := Classical.choose_spec (row i h)
              exact ⟨cs', fun c hc => h5' c (by simpa using hc), h6⟩
            · obtain ⟨i, hi⟩ := List.getElem?_of_mem (show r ∈ rows from hr)
              obtain ⟨h, rfl⟩ := hget i r hi
              obtain ⟨_, _, _, h7⟩ := Classical.choose_spec (row i h)
              exact h7
        · cases h
      · cases h
    · rename_i fs hu
      split at h
      · rename_i ks' hd
        split at h
        · rename_i hb
          rw [beqN_iff] at hb
          simp only [Option.some.injEq] at h
          subst h
          obtain ⟨xs, m', rfl, _, hl, hxs, hf⟩ := DataW.trod_struct hu hx
          have := holds_fields (w := w) (cs := cs) fs.toList 0 ks' hd (by rw [hl, hb]; simp) (fun f hm ks1 hk1 => ?_)
          · simpa using this
          · obtain ⟨i, hi, rfl⟩ := List.mem_iff_getElem.1 hm
            have hi' : i < fs.size := by simpa using hi
            have e1 := hf i fs[i] (by simp [hi'])
            rw [List.getElem?_eq_getElem (by omega)] at e1
            have e2 : fs.toList[i] = fs[i] := by simp
            rw [e2] at hk1 ⊢
            exact holds_of_trod n _ ks1 hk1 m' _ _ e1
        · cases h
      · cases h
    · rename_i m0 e hu
      split at h
      · rename_i ks' hd
        split at h
        · rename_i hb
          simp only [Bool.and_eq_true, beqN_iff] at hb
          simp only [Option.some.injEq] at h
          subst h
          cases m with
          | zero => simp [DataW.trod] at hx
          | succ m' =>
            obtain ⟨hl, hi⟩ := HB.trod_array hu hx
            refine holds_rep m0 (by rw [hl, hb.2]) fun i h => ?_
            obtain ⟨y, hy⟩ := hi i h
            rw [hb.1] at hy
            exact holds_of_trod n e ks' hd m' _ y hy
        · cases h
      · cases h
    · cases h


def strOf (z : ByteArray) : List Nat := z.data.toList.map UInt8.toNat

def valOf : Value → Option V
  | .int k n => some (.int k n)
  | .bool b => some (.bool b)
  | .string z => some (.str (strOf z))
  | .slice none 0 0 => some .nils
  | .slice (some a) n cap => if n ≤ cap then some (.rslc a n cap) else none
  | _ => none

noncomputable def roOf (w : World) (a : Addr) : Option V := match w.cell? a with
  | some u => valOf u
  | none => none

theorem valOf_rv {u : Value} {v : V} (h : valOf u = some v) : one1 v = true ∧ ∀ ρ n, Rv ρ n v u := by
  unfold valOf at h
  split at h
  · cases h; exact ⟨rfl, fun _ _ => by simp only [Rv]⟩
  · cases h; exact ⟨rfl, fun _ _ => by simp only [Rv]⟩
  · cases h
    rename_i z
    refine ⟨rfl, fun _ _ => ?_⟩
    simp only [Rv]
    refine ⟨fun b hb => ?_, by rw [strOf, bytes_of]⟩
    obtain ⟨x, _, rfl⟩ := List.mem_map.1 (show b ∈ z.data.toList.map UInt8.toNat from hb)
    exact x.toNat_lt
  · cases h; exact ⟨rfl, fun _ _ => by simp only [Rv]⟩
  · split at h
    · rename_i hle
      cases h
      exact ⟨rfl, fun _ _ => by simp only [Rv]; exact ⟨hle, trivial⟩⟩
    · cases h
  · cases h

theorem roOf_ok (w : World) : RoAt (roOf w) w := by
  intro a v h
  unfold roOf at h
  split at h
  · rename_i u hu
    obtain ⟨h1, h2⟩ := valOf_rv h
    exact ⟨h1, u, hu, fun ρ n => h2 ρ n⟩
  · cases h

theorem str_bytes {s : List Nat} (h : ∀ b ∈ s, b < 256) : strOf (bytesOf s) = s := by
  simp only [strOf, bytesOf, List.map_map]
  induction s with
  | nil => rfl
  | cons b s ih =>
    have hb := h b (.head _)
    simp only [List.map_cons, Function.comp_apply, UInt8.toNat_ofNat', List.cons.injEq]
    exact ⟨Nat.mod_eq_of_lt hb, ih fun x hx => h x (.tail _ hx)⟩

mutual
theorem rdK_fz {g : Nat → Option O} {B : Nat} : ∀ (k : Kd) (d : D) (u : Value), RdK w k d u → RngK k d → ∃ v, valOf u = some v ∧ FzC (roOf w) g B k d v
  | .int k, d, u, h, _ => by
    simp only [RdK] at h
    obtain ⟨⟨n, rfl⟩, rfl⟩ := h
    exact ⟨_, rfl, by simp only [FzC]; exact ⟨⟨_, rfl⟩, trivial⟩⟩
  | .bool, d, u, h, _ => by
    simp only [RdK] at h
    obtain ⟨⟨n, rfl⟩, rfl⟩ := h
    exact ⟨_, rfl, by simp only [FzC]; exact ⟨⟨_, rfl⟩, trivial⟩⟩
  | .str, d, u, h, hr => by
    simp only [RdK] at h
    obtain ⟨⟨n, rfl⟩, rfl⟩ := h
    simp only [RngK, D.str] at hr
    refine ⟨_, rfl, ?_⟩
    simp only [FzC, D.str, str_bytes hr]
    exact ⟨⟨_, rfl⟩, trivial⟩
  | .sl ks, d, u, h, hr => by
    simp only [RdK] at h
    obtain ⟨⟨rows, rfl, hl⟩, hpos, h⟩ := h
    simp only [RngK, D.rows] at hr h
    rcases h with ⟨rfl, rfl⟩ | ⟨a, cap, rfl, hcap, hrow⟩
    · exact ⟨.nils, rfl, by simp only [FzC]; exact ⟨⟨_, rfl, hl⟩, .inl ⟨rfl, trivial⟩⟩⟩
    · refine ⟨.rslc a rows.length cap, by simp only [valOf]; rw [if_pos hcap], ?_⟩
      simp only [FzC, D.rows]
      refine ⟨⟨_, rfl, hl⟩, .inr (.inr ⟨a, cap, rfl, hpos, hcap, fun i hi => ?_⟩)⟩
      obtain ⟨cs, c1, c2⟩ := hrow i rows[i] (List.getElem?_eq_getElem hi)
      have hg := hr rows[i] (List.getElem_mem hi)
      refine FzR.of _ _ _ _ fun j k hk => ?_
      have hj : j < ks.length := (List.getElem?_eq_some_iff.1 hk).1
      obtain ⟨v, e1, e2⟩ := rdL_fz (g := g) (B := B) ks rows[i] cs c2 hg j k hk
      refine ⟨v, ?_, ?_⟩
      · simp only [roOf, Nat.zero_add, c1 j hj]
        revert e1
        cases cs[j]? with
        | none => intro e1; cases e1
        | some u => intro e1; exact e1
      · have : gt rows i (0 + j) = rows[i].getD j .nil := by simp [gt, List.getD_eq_getElem?_getD, hi]
        rw [this]; exact e2
theorem rdL_fz {g : Nat → Option O} {B : Nat} : ∀ (ks : List Kd) (l : List D) (cs : List Value), RdL w ks l cs → RngL ks l → ∀ j k, ks[j]? = some k → ∃ v, (cs[j]?).bind valOf = some v ∧ FzC (roOf w) g B k (l.getD j .nil) v
  | [], _, _, _, _, j, k, hk => by simp at hk
  | k0 :: ks, d :: l, c :: cs, h, hr, 0, k, hk => by
    simp only [RdL] at h
    simp only [RngL] at hr
    simp only [List.getElem?_cons_zero, Option.some.injEq] at hk
    subst hk
    obtain ⟨v, a, b⟩ := rdK_fz (g := g) (B := B) k0 d c h.1 hr.1
    exact ⟨v, by simpa using a, by simpa using b⟩
  | k0 :: ks, d :: l, c :: cs, h, hr, j + 1, k, hk => by
    simp only [RdL] at h
    simp only [RngL] at hr
    obtain ⟨v, a, b⟩ := rdL_fz (g := g) (B := B) ks l cs h.2 hr.2 j k (by simpa using hk)
    exact ⟨v, by simpa using a, by simpa using b⟩
  | _ :: _, [], _, h, _, _, _, _ => by simp [RdL] at h
  | _ :: _, _ :: _, [], h, _, _, _, _ => by simp [RdL] at h
end

theorem rdL_vals {g : Nat → Option O} {B : Nat} {ρ : Nm} {n : Nat} : ∀ (ks : List Kd) (l : List D) (cs : List Value), RdL w ks l cs → RngL ks l →
    ∃ x : List V, x.length = ks.length ∧ (∀ j k, ks[j]? = some k → ∃ u, x[j]? = some u ∧ FzC (roOf w) g B k (l.getD j .nil) u) ∧ RvL ρ n x cs
  | [], [], [], _, _ => ⟨[], rfl, fun j k h => by simp at h, by simp [RvL]⟩
  | k :: ks, d :: l, c :: cs, h, hr => by
    simp only [RdL] at h
    simp only [RngL] at hr
    obtain ⟨v, a, b⟩ := rdK_fz (g := g) (B := B) k d c h.1 hr.1
    obtain ⟨x, e1, e2, e3⟩ := rdL_vals (g := g) (B := B) (ρ := ρ) (n := n) ks l cs h.2 hr.2
    refine ⟨v :: x, by simp [e1], fun j k' hk => ?_, by simp only [RvL]; exact ⟨(valOf_rv a).2 ρ n, e3⟩⟩
    cases j with
    | zero =>
      simp only [List.getElem?_cons_zero, Option.some.injEq] at hk
      subst hk
      exact ⟨v, rfl, by simpa using b⟩
    | succ j => simpa using e2 j k' (by simpa using hk)
  | [], [], _ :: _, h, _ => by simp [RdL] at h
  | [], _ :: _, _, h, _ => by simp [RdL] at h
  | _ :: _, [], _, h, _ => by simp [RdL] at h
  | _ :: _, _ :: _, [], h, _ => by simp [RdL] at h

def descAll (P : Program) (n : Nat) : List TypeId → Option (List (Bool × List Kd))
  | [] => some []
  | t :: r => match desc P n t, descAll P n r with
    | some ks, some l => some ((HB.isAgg P t, ks) :: l)
    | _, _ => none

def RngAll : List (Bool × List Kd) → List (List D) → Prop
  | (_, ks) :: r, d :: ds => RngL ks d ∧ RngAll r ds
  | _, _ => True

def trueRes (_ : List (List D)) (_ _ : Nat) : D := .b true

def ArgsRd (w : World) : List (Bool × List Kd) → List (List D) → List Value → Prop
  | [], [], [] => True
  | (g, ks) :: r, d :: ds, v :: vs => (RdL w ks d v.cells.toList ∧ (g = true → v = .agg (v.cells.toList).toArray) ∧ (g = false → v.cells.toList = [v])) ∧ ArgsRd w r ds vs
  | _, _, _ => False

theorem args_fz {g : Nat → Option O} {B : Nat} {ρ : Nm} {n : Nat} : ∀ (ps : List (Bool × List Kd)) (ds : List (List D)) (vs : List Value), ArgsRd w ps ds vs → RngAll ps ds → ∃ x : List V, ArgsFz (roOf w) g B ps ds x ∧ RvL ρ n x vs
  | [], [], [], _, _ => ⟨[], trivial, by simp [RvL]⟩
  | (a, ks) :: ps, d :: ds, v :: vs, h, hr => by
    obtain ⟨⟨h1, h2, h3⟩, h4⟩ := h
    obtain ⟨x, e1, e2, e3⟩ := rdL_vals (g := g) (B := B) (ρ := ρ) (n := n) ks d _ h1 hr.1
    obtain ⟨xs, f1, f2⟩ := args_fz (g := g) (B := B) (ρ := ρ) (n := n) ps ds vs h4 hr.2
    cases a with
    | true => exact ⟨.agg x :: xs, ⟨h1.len.1, ⟨x, e1, e2, rfl⟩, f1⟩, by simp only [RvL, Rv]; exact ⟨⟨_, e3, h2 rfl⟩, f2⟩⟩
    | false =>
      rw [h3 rfl] at e3
      match x, e3 with
      | [y], e3 =>
        simp only [RvL, and_true] at e3
        exact ⟨y :: xs, ⟨h1.len.1, ⟨[y], e1, e2, y, rfl, rfl⟩, f1⟩, by simp only [RvL]; exact ⟨e3, f2⟩⟩
      | [], e3 => simp [RvL] at e3
      | _ :: _ :: _, e3 => simp [RvL] at e3
  | [], [], _ :: _, h, _ => h.elim
  | [], _ :: _, _, h, _ => h.elim
  | _ :: _, [], _, h, _ => h.elim
  | _ :: _, _ :: _, [], h, _ => h.elim

theorem shape_of {r : Reach} {n : Nat} {t : TypeId} {ks : List Kd} {v : Value} (hd : desc P n t = some ks) (h : Value.okWide P w r base t v) :
    (HB.isAgg P t = true → v = .agg (v.cells.toList).toArray) ∧ (HB.isAgg P t = false → v.cells.toList = [v]) := by
  cases n with
  | zero => simp [desc] at hd
  | succ n =>
    unfold desc at hd
    unfold HB.isAgg
    split at hd
    · rename_i hu
      obtain ⟨b, rfl⟩ := okWide_bool hu h
      rw [hu]
      exact ⟨fun h => (by cases h), fun _ => rfl⟩
    · rename_i k hu
      obtain ⟨z, rfl⟩ := okWide_int hu h
      rw [hu]
      exact ⟨fun h => (by cases h), fun _ => rfl⟩
    · rename_i hu
      obtain ⟨z, rfl⟩ := okWide_string hu h
      rw [hu]
      exact ⟨fun h => (by cases h), fun _ => rfl⟩
    · rename_i e hu
      obtain ⟨a, l, c, rfl⟩ := okWide_slice hu h
      rw [hu]
      exact ⟨fun h => (by cases h), fun _ => rfl⟩
    · rename_i fs hu
      obtain ⟨cs, rfl, _⟩ := okWide_struct hu h
      rw [hu]
      exact ⟨fun _ => by simp [Value.cells], fun h => by cases h⟩
    · rename_i m e hu
      have : ∃ cs, v = .agg cs := by
        unfold Value.okWide at h
        rw [hu] at h
        obtain ⟨cs, hc, _⟩ := h
        exact ⟨cs, hc⟩
      obtain ⟨cs, rfl⟩ := this
      rw [hu]
      exact ⟨fun _ => by simp [Value.cells], fun h => by cases h⟩
    · cases hd

theorem args_read {r : Reach} {n : Nat} : ∀ (ts : List TypeId) (params : List (Bool × List Kd)) (vs : List Value) (ds : List (DataW H)) (ps : List MemPlace), descAll P n ts = some params →
    (∀ (j : Nat) t v, ts[j]? = some t → vs[j]? = some v → Value.okWide P w r base t v) → DataW.TrodAll enc P w 0 spare held ts vs ds ps →
    ∃ dss, ArgsRd w params dss vs ∧ RngAll params dss
  | [], params, vs, ds, ps, hd, _, h => by
    simp only [descAll, Option.some.injEq] at hd
    subst hd
    obtain ⟨rfl, _, _⟩ := trodAll_nil h
    exact ⟨[], trivial, trivial⟩
  | t :: ts, params, vs, ds, ps, hd, hok, h => by
    unfold descAll at hd
    split at hd
    · rename_i ks l hks hl
      simp only [Option.some.injEq] at hd
      subst hd
      cases vs with
      | nil => simp [DataW.TrodAll] at h
      | cons v vs =>
        cases ds with
        | nil => simp [DataW.TrodAll] at h
        | cons d ds =>
          obtain ⟨p, q, ⟨m, hm⟩, h2, _⟩ := h
          obtain ⟨f, g1, g2⟩ := holds_of_trod n t ks hks m _ _ hm
          obtain ⟨dss, i1, i2⟩ := args_read ts l vs ds q hl (fun j t' v' ht hv => hok (j + 1) t' v' (by simpa using ht) (by simpa using hv)) h2
          obtain ⟨s1, s2⟩ := shape_of hks (hok 0 t v (by simp) (by simp))
          exact ⟨f :: dss, ⟨⟨g1, s1, s2⟩, i1⟩, g2, i2⟩
    · cases hd
end

section
variable {H : Type} {enc : TypeId × Value → H} {P : Program}

theorem said {fnum : FuncId} {f : Func} {s : ChangeSpec} {fresh handsOn again : Bool} {n : Nat} {params : List (Bool × List Kd)} {tb : TypeId}
    (hE : ∀ ro, CX.EnvOk (cxE ro) P) (hpure : ∀ ro, PureC0 (cxE ro) fnum ⟨params, [(false, [.bool])], false⟩ (RngAll params) trueRes) (hd : descAll P n f.params.toList = some params) (hl : laidOutB P = true)
    (hr : (f.params.toList.all fun t => P.readableRec t && decide (t < P.types.size)) = true) (hres : f.resultTypes = #[tb]) (hb : P.underlying tb = some .bool)
    (hs : ∀ ds : List (DataW H), ds.length = f.params.toList.length → s.fn H ds = ⟨[.lit (.bool true)], ds, []⟩) (hv : s.vars = []) {apart : Bool} (W : World) (base : Nat) (args : Array Value) (ds gs : List (DataW H)) (before : List MemPlace)
    (hval : ∀ (j : Nat) t v, f.params[j]? = some t → args[j]? = some v → Value.okWide P W .any base t v) (hW : DataW.Whole enc P f.params.toList s.vars apart W args.toList ds gs before) :
    Calls P fnum args W fun e W' => ∃ v, e = .returned v ∧ s.post enc P f apart fresh handsOn again W args v W' := by
  have hW' := hW
  obtain ⟨p, q, hA, hV, rfl, _, _⟩ := hW
  rw [hv] at hV
  obtain ⟨rfl, rfl⟩ := trodVars_none hV
  obtain ⟨dss, h1, h2⟩ := args_read (r := .any) (base := base) f.params.toList params args.toList ds p hd (fun j t v ht hv => hval j t v (by simpa using ht) (by simpa using hv)) hA
  have hlen := (trodAll_length hA).2
  have hfn : s.fn H (ds ++ []) = ⟨[.lit (.bool true)], ds, []⟩ := by rw [List.append_nil]; exact hs ds hlen
  obtain ⟨xs, x1, x2⟩ := args_fz (g := fun _ => none) (B := 0) (ρ := fun _ => none) (n := 0) params dss args.toList h1 h2
  obtain ⟨vs, h', nx', g', ⟨n0, hrun⟩, hresF⟩ := hpure (roOf W) dss h2 xs x1
  have hvs : vs = [.bool true] := by
    match vs, hresF with
    | [v], hresF =>
      obtain ⟨⟨x, _, e2, u, rfl, rfl⟩, _⟩ := hresF
      obtain ⟨u, e3, e4⟩ := e2 0 .bool rfl
      simp only [List.getElem?_cons_zero, Option.some.injEq] at e3
      subst e3
      simp only [FzC] at e4
      rw [e4.2]; rfl
    | [], hresF => simp [ResFz] at hresF
    | _ :: _ :: _, hresF => simp [ResFz] at hresF
  subst hvs
  have hcall := call_ro (hE (roOf W)) (w := W) (roOf_ok W) x2 (hrun n0 (Nat.le_refl _) retV)
  rw [show args.toList.toArray = args by simp] at hcall
  refine hcall.mono fun e W' h => ?_
  obtain ⟨u, ρ, m, rfl, hu, hk⟩ := h
  simp only [CX.one, Rv] at hu
  subst hu
  have hlt := hW'.lt
  simp only [List.append_nil] at hW' hlt
  refine ⟨_, rfl, CX.post_kept (pa := p) (pv := []) hW' (fun b sp hd => ?_) (fun sp hsp => ?_) (fun sp _ => ?_) (by simp) hk (ok_one hres rfl (okWide_bool_mk hb _))⟩
  · rw [hfn, hres]
    exact trodAll_mk1 (shut_bool hb _)
  · rw [hfn]
    exact HB.args_stay hl hr hA (fun x hx => HB.Kept_same hk (hlt x hx)) (fun x hx => hsp x hx)
  · rw [hfn, hv]
    rfl
end
end HX

namespace HX
open Go Go.Proofs
theorem own : ownKnob Tryz.prog.godebug = none := by kernel_rfl
theorem laid : laidOutB Tryz.prog = true := by kernel_rfl
end HX

namespace HX
open Go Go.Proofs CX

inductive Ctrs (E : CX.Env) : List Ctr → Prop
  | nil : Ctrs E []
  | cons {c : Ctr} {l : List Ctr} (h : PureC E c.f c.sg c.pre c.res) (r : Ctrs E l) : Ctrs E (c :: l)

theorem Ctrs.find {E : CX.Env} : ∀ {l : List Ctr}, Ctrs E l → ∀ {f : Nat} {sg : Sig}, sigL (sigs l) f = some sg → PureC E f sg (preOf l f) (resOf l f)
  | [], _, f, sg, h => by simp [sigL, sigs, look] at h
  | c :: l, .cons h1 h2, f, sg, h => by
    simp only [sigL, sigs, List.map_cons] at h
    rw [look_cons] at h
    split at h
    · rename_i e
      simp only [Option.some.injEq] at h
      subst e h
      have e1 : preOf (c :: l) c.f = c.pre := by funext ds; simp [preOf, ctrOf]
      have e2 : resOf (c :: l) c.f = c.res := by funext ds; simp [resOf, ctrOf]
      rw [e1, e2]; exact h1
    · rename_i e
      have e1 : preOf (c :: l) f = preOf l f := by funext ds; simp [preOf, ctrOf, e]
      have e2 : resOf (c :: l) f = resOf l f := by funext ds; simp [resOf, ctrOf, e]
      rw [e1, e2]
      exact h2.find h

theorem envL {ro : Addr → Option V} {l : List Ctr} (h : Ctrs (cxE ro) l) : EnvOk ⟨Ar.std, cxE ro, ksF, sigL (sigs l), preOf l, resOf l⟩ := hxEnv fun _ _ hs => h.find hs
end HX

namespace HX
open Go Go.Proofs CX

def BOU : Bool × List Kd := (false, [.sl [.int .i64, .int .i64, .int .i64]])
def within (r : List D) : Bool := decide ((r.getD 1 .nil).int ≤ (r.getD 0 .nil).int) && decide ((r.getD 0 .nil).int ≤ (r.getD 2 .nil).int)
def holdRes : List (List D) → Nat → Nat → D
  | [[.l a]], _, _ => .b (a.all within)
  | _, _, _ => .nil

set_option maxHeartbeats 1000000 in
theorem hold_pure {ro A pre fn} (hE : EnvOk ⟨A, (cxE ro), ksF, sigL [], pre, fn⟩) : PureC (cxE ro) 51 ⟨[BOU], [BOOL], false⟩ (fun _ => True) holdRes := by
  have hA := hE.A
  simp only [] at hA
  have hinl : ∀ f fn, inlL [(96, Tryz.f96), (97, Tryz.f97), (121, Tryz.f121)] f = some fn → (cxE ro).fn f = some fn ∧ (cxE ro).ext f = none := Inls.ok (by repeat (first | exact .nil | refine .cons rfl rfl ?_))
  refine PureC.of_vc hE hinl 4 (f := 51) (fn := Tryz.f51) ⟨rfl, rfl⟩ ?_
  intro a ha _
  obtain ⟨R, hR⟩ : ∃ R, holdRes [[.l a]] = R := ⟨_, rfl⟩
  rw [hR]
  have hR' : R 0 0 = .b (a.all within) := by rw [← hR]; rfl
  have hlen := ha.2
  clear hR
  cbv
  repeat' (first | (refine Br.mk (fun _ => ?_) (fun _ => ?_) <;> cbv) | (refine NilB.mk (fun _ => ?_) ?_ <;> cbv) | refine And.intro ?_ ?_ | exact True.intro)
  refine loopA hE hinl 2 [4] [] (fun r : Nat => [.i (r : Int)]) (fun r => r ≤ a.length ∧ (a.take r).all within = true) (fun r => a.length - r) 0 ⟨Nat.zero_le _, by simp⟩ ?_ ?_
  · cbv
    exact ⟨rfl, trivial⟩
  · intro r ⟨hr1, hr2⟩ K hK
    cbv
    repeat' (first | (refine Br.mk (fun _ => ?_) (fun _ => ?_) <;> cbv) | (refine NilB.mk (fun _ => ?_) ?_ <;> cbv) | refine And.intro ?_ ?_ | exact True.intro)
    · clear hE hK hinl; (subst hA; simp only [Ar.std, Int.ofNat_eq_natCast, Int.toNat_natCast, Bool.not_eq_true', Bool.not_eq_false', decide_eq_true_eq, decide_eq_false_iff_not] at *); omega
    · clear hE hK hinl; (subst hA; simp only [Ar.std, Int.ofNat_eq_natCast, Int.toNat_natCast, Bool.not_eq_true', Bool.not_eq_false', decide_eq_true_eq, decide_eq_false_iff_not] at *); omega
    · clear hE hK hinl
      (subst hA; simp only [Ar.std, Int.ofNat_eq_natCast, Int.toNat_natCast, Bool.not_eq_true', Bool.not_eq_false', decide_eq_true_eq, decide_eq_false_iff_not] at *)
      rw [hR', all_not (r := r) (by omega)]
      · simp
      · simp only [within, Bool.and_eq_false_iff, decide_eq_false_iff_not]
        simp only [gt] at *; omega
    · clear hE hK hinl
      (subst hA; simp only [Ar.std, Int.ofNat_eq_natCast, Int.toNat_natCast, Bool.not_eq_true', Bool.not_eq_false', decide_eq_true_eq, decide_eq_false_iff_not] at *)
      rw [hR', all_not (r := r) (by omega)]
      · simp
      · simp only [within, Bool.and_eq_false_iff, decide_eq_false_iff_not]
        simp only [gt] at *; omega
    · clear hE hK hinl; (subst hA; simp only [Ar.std, Int.ofNat_eq_natCast, Int.toNat_natCast, Bool.not_eq_true', Bool.not_eq_false', decide_eq_true_eq, decide_eq_false_iff_not] at *); rw [i64_in]; omega
    · refine hK (r + 1) _ ⟨?_, ?_⟩ ?_ ?_
      · clear hE hK hinl; (subst hA; simp only [Ar.std, Int.ofNat_eq_natCast, Int.toNat_natCast, Bool.not_eq_true', Bool.not_eq_false', decide_eq_true_eq, decide_eq_false_iff_not] at *); omega
      · clear hE hK hinl; (subst hA; simp only [Ar.std, Int.ofNat_eq_natCast, Int.toNat_natCast, Bool.not_eq_true', Bool.not_eq_false', decide_eq_true_eq, decide_eq_false_iff_not] at *)
        refine all_next hr2 (by omega) ?_
        simp only [within, Bool.and_eq_true, decide_eq_true_eq]
        simp only [gt] at *; omega
      · clear hE hK hinl; (subst hA; simp only [Ar.std, Int.ofNat_eq_natCast, Int.toNat_natCast, Bool.not_eq_true', Bool.not_eq_false', decide_eq_true_eq, decide_eq_false_iff_not] at *); omega
      · clear hE hK hinl hR' hr1 hr2
        cbv
        subst hA
        exact ⟨rfl, trivial⟩
    · clear hE hK hinl; (subst hA; simp only [Ar.std, Int.ofNat_eq_natCast, Int.toNat_natCast, Bool.not_eq_true', Bool.not_eq_false', decide_eq_true_eq, decide_eq_false_iff_not] at *)
      rw [hR', ← List.take_of_length_le (show a.length ≤ r by omega), hr2]
      simp
end HX

namespace HX
open Go Go.Proofs CX

def BS : Bool × List Kd := (false, [.sl [.bool]])
def EVS : Bool × List Kd := (false, [.sl [.int .i64, .int .i64]])
def eqPre : List (List D) → Prop
  | [x, y] => x = y
  | _ => False
def yes (_ : List (List D)) (_ _ : Nat) : D := .b true

set_option maxHeartbeats 1000000 in
theorem events_pure {ro A pre fn} (hE : EnvOk ⟨A, (cxE ro), ksF, sigL [], pre, fn⟩) : PureC (cxE ro) 21 ⟨[EVS, EVS], [BOOL], false⟩ eqPre yes := by
  have hA := hE.A
  simp only [] at hA
  refine PureC.of_vc hE (inl := inlL []) inl0 0 (f := 21) (fn := Tryz.f21) ⟨rfl, rfl⟩ ?_
  intro a ha b hb hpre
  have hab : a = b := by simpa [eqPre] using hpre
  subst hab
  have hlen := ha.2
  clear hpre ha hb
  generalize hR : yes = R
  have hR' : ∀ x, R x 0 0 = .b true := fun x => by rw [← hR]; rfl
  clear hR
  cbv
  repeat' (first | (refine Br.mk (fun _ => ?_) (fun _ => ?_) <;> cbv) | (refine NilB.mk (fun _ => ?_) ?_ <;> cbv) | refine And.intro ?_ ?_ | exact True.intro)
  all_goals first
    | (clear hE; subst hA; simp [Ar.std, hR'] at *; done)
    | skip
  refine loopA hE (inl := inlL []) inl0 0 [4] [] (fun r : Nat => [.i (r : Int)]) (fun r => r ≤ a.length) (fun r => a.length - r) 0 (Nat.zero_le _) ?_ ?_
  · cbv
    exact ⟨rfl, trivial⟩
  · intro r hr K hK
    cbv
    repeat' (first | (refine Br.mk (fun _ => ?_) (fun _ => ?_) <;> cbv) | (refine NilB.mk (fun _ => ?_) ?_ <;> cbv) | refine And.intro ?_ ?_ | exact True.intro)
    all_goals first
      | (clear hE hK; (subst hA; simp only [Ar.std, Int.ofNat_eq_natCast, Int.toNat_natCast, Bool.not_eq_true', Bool.not_eq_false', decide_eq_true_eq, decide_eq_false_iff_not] at *); first | omega | (rw [i64_in]; omega) | (simp at *; done) | (simp [hR']; done))
      | skip
    refine hK (r + 1) _ ?_ ?_ ?_
    · clear hE hK; (subst hA; simp only [Ar.std, Int.ofNat_eq_natCast, Int.toNat_natCast, Bool.not_eq_true', Bool.not_eq_false', decide_eq_true_eq, decide_eq_false_iff_not] at *); omega
    · clear hE hK; (subst hA; simp only [Ar.std, Int.ofNat_eq_natCast, Int.toNat_natCast, Bool.not_eq_true', Bool.not_eq_false', decide_eq_true_eq, decide_eq_false_iff_not] at *); omega
    · try dsimp only
      clear hE hK hR'
      cbv
      subst hA
      exact ⟨rfl, trivial⟩

def NET : Bool × List Kd := (true, [.sl [.int .i64, .int .i64, .int .i64, .int .i64, .int .i64, .int .i64, .int .i64, .int .i64], .int .i64, .sl [.int .i64, .int .i64, .int .i64, .int .i64]])

set_option maxHeartbeats 2000000 in
theorem nets_pure {ro A pre fn} (hE : EnvOk ⟨A, (cxE ro), ksF, sigL [], pre, fn⟩) : PureC (cxE ro) 34 ⟨[NET, NET], [BOOL], false⟩ eqPre yes := by
  have hA := hE.A
  simp only [] at hA
  refine PureC.of_vc hE (inl := inlL []) inl0 0 (f := 34) (fn := Tryz.f34) ⟨rfl, rfl⟩ ?_
  intro a ha n b hb a' ha' n' b' hb' hpre
  have hab : a = a' ∧ n = n' ∧ b = b' := by simpa [eqPre] using hpre
  obtain ⟨rfl, rfl, rfl⟩ := hab
  have hlen := ha.2
  have hlen' := hb.2
  clear hpre ha hb ha' hb'
  generalize hR : yes = R
  have hR' : ∀ x, R x 0 0 = .b true := fun x => by rw [← hR]; rfl
  clear hR
  cbv
  repeat' (first | (refine Br.mk (fun _ => ?_) (fun _ => ?_) <;> cbv) | (refine NilB.mk (fun _ => ?_) ?_ <;> cbv) | refine And.intro ?_ ?_ | exact True.intro)
  all_goals first
    | (clear hE; subst hA; simp [Ar.std, hR'] at *; done)
    | skip
  refine loopA hE (inl := inlL []) inl0 0 [4] [] (fun r : Nat => [.i (r : Int)]) (fun r => r ≤ a.length) (fun r => a.length - r) 0 (Nat.zero_le _) ?_ ?_
  · cbv
    exact ⟨rfl, trivial⟩
  · intro r hr K hK
    cbv
    repeat' (first | (refine Br.mk (fun _ => ?_) (fun _ => ?_) <;> cbv) | (refine NilB.mk (fun _ => ?_) ?_ <;> cbv) | refine And.intro ?_ ?_ | exact True.intro)
    all_goals first
      | (clear hE hK; (subst hA; simp only [Ar.std, Int.ofNat_eq_natCast, Int.toNat_natCast, Bool.not_eq_true', Bool.not_eq_false', decide_eq_true_eq, decide_eq_false_iff_not] at *); first | omega | (rw [i64_in]; omega) | (simp at *; done) | (simp [hR']; done))
      | skip
    · refine hK (r + 1) _ ?_ ?_ ?_
      · clear hE hK; (subst hA; simp only [Ar.std, Int.ofNat_eq_natCast, Int.toNat_natCast, Bool.not_eq_true', Bool.not_eq_false', decide_eq_true_eq, decide_eq_false_iff_not] at *); omega
      · clear hE hK; (subst hA; simp only [Ar.std, Int.ofNat_eq_natCast, Int.toNat_natCast, Bool.not_eq_true', Bool.not_eq_false', decide_eq_true_eq, decide_eq_false_iff_not] at *); omega
      · try dsimp only
        clear hE hK hR'
        cbv
        subst hA
        exact ⟨rfl, trivial⟩
    clear hK
    refine loopA hE (inl := inlL []) inl0 0 [4] [] (fun r : Nat => [.i (r : Int)]) (fun r => r ≤ b.length) (fun r => b.length - r) 0 (Nat.zero_le _) ?_ ?_
    · cbv
      exact ⟨rfl, trivial⟩
    · intro q hq K hK
      cbv
      repeat' (first | (refine Br.mk (fun _ => ?_) (fun _ => ?_) <;> cbv) | (refine NilB.mk (fun _ => ?_) ?_ <;> cbv) | refine And.intro ?_ ?_ | exact True.intro)
      all_goals first
        | (clear hE hK; (subst hA; simp only [Ar.std, Int.ofNat_eq_natCast, Int.toNat_natCast, Bool.not_eq_true', Bool.not_eq_false', decide_eq_true_eq, decide_eq_false_iff_not] at *); first | omega | (rw [i64_in]; omega) | (simp at *; done) | (simp [hR']; done))
        | skip
      refine hK (q + 1) _ ?_ ?_ ?_
      · clear hE hK; (subst hA; simp only [Ar.std, Int.ofNat_eq_natCast, Int.toNat_natCast, Bool.not_eq_true', Bool.not_eq_false', decide_eq_true_eq, decide_eq_false_iff_not] at *); omega
      · clear hE hK; (subst hA; simp only [Ar.std, Int.ofNat_eq_natCast, Int.toNat_natCast, Bool.not_eq_true', Bool.not_eq_false', decide_eq_true_eq, decide_eq_false_iff_not] at *); omega
      · try dsimp only
        clear hE hK hR'
        cbv
        subst hA
        exact ⟨rfl, trivial⟩
end HX

namespace HX
open Go Go.Proofs CX
set_option maxHeartbeats 1000000 in
theorem bools_pure {ro A pre fn} (hE : EnvOk ⟨A, (cxE ro), ksF, sigL [], pre, fn⟩) : PureC (cxE ro) 31 ⟨[BS, BS], [BOOL], false⟩ eqPre yes := by
  have hA := hE.A
  simp only [] at hA
  refine PureC.of_vc hE (inl := inlL []) inl0 0 (f := 31) (fn := Tryz.f31) ⟨rfl, rfl⟩ ?_
  intro a ha b hb hpre
  have hab : a = b := by simpa [eqPre] using hpre
  subst hab
  have hlen := ha.2
  clear hpre ha hb
  generalize hR : yes = R
  have hR' : ∀ x, R x 0 0 = .b true := fun x => by rw [← hR]; rfl
  clear hR
  cbv
  repeat' (first | (refine Br.mk (fun _ => ?_) (fun _ => ?_) <;> cbv) | (refine NilB.mk (fun _ => ?_) ?_ <;> cbv) | refine And.intro ?_ ?_ | exact True.intro)
  all_goals first
    | (clear hE; subst hA; simp [Ar.std, hR'] at *; done)
    | skip
  refine loopA hE (inl := inlL []) inl0 0 [4] [] (fun r : Nat => [.i (r : Int)]) (fun r => r ≤ a.length) (fun r => a.length - r) 0 (Nat.zero_le _) ?_ ?_
  · cbv
    exact ⟨rfl, trivial⟩
  · intro r hr K hK
    cbv
    repeat' (first | (refine Br.mk (fun _ => ?_) (fun _ => ?_) <;> cbv) | (refine NilB.mk (fun _ => ?_) ?_ <;> cbv) | refine And.intro ?_ ?_ | exact True.intro)
    all_goals first
      | (clear hE hK; (subst hA; simp only [Ar.std, Int.ofNat_eq_natCast, Int.toNat_natCast, Bool.not_eq_true', Bool.not_eq_false', decide_eq_true_eq, decide_eq_false_iff_not] at *); first | omega | (rw [i64_in]; omega) | (simp at *; done) | (simp [hR']; done))
      | skip
    refine hK (r + 1) _ ?_ ?_ ?_
    · clear hE hK; (subst hA; simp only [Ar.std, Int.ofNat_eq_natCast, Int.toNat_natCast, Bool.not_eq_true', Bool.not_eq_false', decide_eq_true_eq, decide_eq_false_iff_not] at *); omega
    · clear hE hK; (subst hA; simp only [Ar.std, Int.ofNat_eq_natCast, Int.toNat_natCast, Bool.not_eq_true', Bool.not_eq_false', decide_eq_true_eq, decide_eq_false_iff_not] at *); omega
    · try dsimp only
      clear hE hK hR'
      cbv
      subst hA
      exact ⟨rfl, trivial⟩

end HX

namespace HX
open Go Go.Proofs CX


def presL (t : Int) : Rows → Nat → Rows
  | [], _ => []
  | row :: l, i => if (row.getD 0 .nil).boo then [.i t, .i (i : Int)] :: presL t l (i + 1) else presL t l (i + 1)
theorem presL_app (t : Int) (row : List D) : ∀ (l : Rows) (i : Nat), presL t (l ++ [row]) i = presL t l i ++ (if (row.getD 0 .nil).boo then [[.i t, .i ((i + l.length : Nat) : Int)]] else [])
  | [], i => by simp [presL]
  | r :: l, i => by
    simp only [List.cons_append, presL, presL_app t row l (i + 1), List.length_cons]
    rw [show i + 1 + l.length = i + (l.length + 1) by omega]
    split <;> simp
theorem presL_next (t : Int) {a : Rows} {r : Nat} (hr : r < a.length) : presL t (a.take (r + 1)) 0 = presL t (a.take r) 0 ++ (if (gt a r 0).boo then [[.i t, .i (r : Int)]] else []) := by
  rw [List.take_succ, List.getElem?_eq_getElem hr]
  show presL t (a.take r ++ [a[r]]) 0 = _
  rw [presL_app, List.length_take, Nat.min_eq_left (by omega), Nat.zero_add]
  simp only [gt, List.getD_eq_getElem?_getD, List.getElem?_eq_getElem hr, Option.getD_some]
theorem presL_len (t : Int) : ∀ (l : Rows) (i : Nat), (presL t l i).length ≤ l.length
  | [], i => by simp [presL]
  | r :: l, i => by
    have := presL_len t l (i + 1)
    simp only [presL]
    split <;> simp <;> omega

def presOk (a : Rows) (t : Int) : Prop := (1 ≤ a.length ∧ a.length ≤ 30) ∧ 0 ≤ t ∧ t ≤ 9999
open Classical in
noncomputable def presRes : List (List D) → Nat → Nat → D
  | [[.l a], [.i t]], 0, _ => .l (if presOk a t then presL t a 0 ++ [[.i t, .i (a.length : Int)]] else [])
  | [[.l a], [.i t]], _, _ => .i (if presOk a t then 0 else 3)
  | _, _, _ => .nil

set_option maxHeartbeats 1000000 in
theorem presR_pure {ro A pre fn} (hE : EnvOk ⟨A, (cxE ro), ksF, sigL [], pre, fn⟩) : PureC (cxE ro) 36 ⟨[BS, I64], [EVS, I64], false⟩ (fun _ => True) presRes := by
  have hA := hE.A
  simp only [] at hA
  have hinl : ∀ f fn, inlL [(52, Tryz.f52)] f = some fn → (cxE ro).fn f = some fn ∧ (cxE ro).ext f = none := Inls.ok (by repeat (first | exact .nil | refine .cons rfl rfl ?_))
  refine PureC.of_vc hE hinl 2 (f := 36) (fn := Tryz.f36) ⟨rfl, rfl⟩ ?_
  intro a ha t _
  obtain ⟨R, hR⟩ : ∃ R, presRes [[.l a], [.i t]] = R := ⟨_, rfl⟩
  rw [hR]
  have f0 : presOk a t → R 0 0 = .l (presL t a 0 ++ [[.i t, .i (a.length : Int)]]) ∧ R 1 0 = .i 0 := fun h => by rw [← hR]; simp [presRes, h]
  have f1 : ¬ presOk a t → R 0 0 = .l [] ∧ R 1 0 = .i 3 := fun h => by rw [← hR]; simp [presRes, h]
  clear hR
  unfold presOk at f0 f1
  cbv
  repeat' (first | (refine Br.mk (fun _ => ?_) (fun _ => ?_) <;> cbv) | (refine NilB.mk (fun _ => ?_) ?_ <;> cbv) | refine And.intro ?_ ?_ | exact True.intro)
  all_goals first
    | (clear hE hinl; (subst hA; simp only [Ar.std, Int.ofNat_eq_natCast, Int.toNat_natCast, Bool.not_eq_true', Bool.not_eq_false', decide_eq_true_eq, decide_eq_false_iff_not] at *); first | exact (f1 (by omega)).1 | exact (f1 (by omega)).2)
    | skip
  have hok : presOk a t := by
    clear hE hinl
    unfold presOk
    (subst hA; simp only [Ar.std, Int.ofNat_eq_natCast, Int.toNat_natCast, Bool.not_eq_true', Bool.not_eq_false', decide_eq_true_eq, decide_eq_false_iff_not] at *)
    omega
  have hlen : a.length ≤ 30 := hok.1.2
  obtain ⟨f2, f3⟩ := f0 hok
  clear f0 f1
  refine loopA hE hinl 2 [] [] (fun r : Nat => [.l (presL t (a.take r) 0), .i (r : Int)]) (fun r => r ≤ a.length) (fun r => a.length - r) 0 (Nat.zero_le _) ?_ ?_
  · cbv
    exact ⟨rfl, trivial⟩
  · intro r hr K hK
    have hl := presL_len t (a.take r) 0
    rw [List.length_take, Nat.min_eq_left hr] at hl
    have hnx : r < a.length → presL t (a.take (r + 1)) 0 = presL t (a.take r) 0 ++ (if (gt a r 0).boo then [[.i t, .i (r : Int)]] else []) := fun h => presL_next t h
    have hend : ¬ r < a.length → presL t (a.take r) 0 = presL t a 0 := fun h => by rw [List.take_of_length_le (by omega)]
    obtain ⟨o, ho⟩ : ∃ o, presL t (a.take r) 0 = o := ⟨_, rfl⟩
    rw [ho] at hl hnx hend ⊢
    cbv
    repeat' (first | (refine Br.mk (fun _ => ?_) (fun _ => ?_) <;> cbv) | (refine NilB.mk (fun _ => ?_) ?_ <;> cbv) | refine And.intro ?_ ?_ | exact True.intro)
    all_goals first
      | (clear hE hinl hK; (subst hA; simp only [Ar.std, Int.ofNat_eq_natCast, Int.toNat_natCast, Bool.not_eq_true', Bool.not_eq_false', decide_eq_true_eq, decide_eq_false_iff_not] at *); first | omega | (rw [i64_in]; omega) | (simp only [List.length_cons, List.length_nil]; omega) | assumption)
      | skip
    · obtain ⟨o2, ho2⟩ : ∃ o, presL t (a.take (r + 1)) 0 = o := ⟨_, rfl⟩
      rw [ho2] at hnx
      refine hK (r + 1) _ ?_ ?_ ?_
      · clear hE hinl hK; (subst hA; simp only [Ar.std, Int.ofNat_eq_natCast, Int.toNat_natCast, Bool.not_eq_true', Bool.not_eq_false', decide_eq_true_eq, decide_eq_false_iff_not] at *); omega
      · clear hE hinl hK; (subst hA; simp only [Ar.std, Int.ofNat_eq_natCast, Int.toNat_natCast, Bool.not_eq_true', Bool.not_eq_false', decide_eq_true_eq, decide_eq_false_iff_not] at *); omega
      · try dsimp only
        rw [ho2]
        clear hE hinl hK ho ho2 hend f2 f3 hok
        cbv
        subst hA
        rename_i h1 h2
        have h1 : decide ((r : Int) < (a.length : Int)) = true := h1
        have h2 : (gt a r 0).boo = true := h2
        rw [decide_eq_true_eq] at h1
        rw [hnx (by omega), if_pos h2]
        exact ⟨rfl, rfl⟩
    · obtain ⟨o2, ho2⟩ : ∃ o, presL t (a.take (r + 1)) 0 = o := ⟨_, rfl⟩
      rw [ho2] at hnx
      refine hK (r + 1) _ ?_ ?_ ?_
      · clear hE hinl hK; (subst hA; simp only [Ar.std, Int.ofNat_eq_natCast, Int.toNat_natCast, Bool.not_eq_true', Bool.not_eq_false', decide_eq_true_eq, decide_eq_false_iff_not] at *); omega
      · clear hE hinl hK; (subst hA; simp only [Ar.std, Int.ofNat_eq_natCast, Int.toNat_natCast, Bool.not_eq_true', Bool.not_eq_false', decide_eq_true_eq, decide_eq_false_iff_not] at *); omega
      · try dsimp only
        rw [ho2]
        clear hE hinl hK ho ho2 hend f2 f3 hok
        cbv
        subst hA
        rename_i h1 h2
        have h1 : decide ((r : Int) < (a.length : Int)) = true := h1
        have h2 : (gt a r 0).boo = false := h2
        rw [decide_eq_true_eq] at h1
        rw [hnx (by omega), if_neg (by rw [h2]; simp), List.append_nil]
        exact ⟨rfl, rfl⟩
    · clear hE hinl hK
      (subst hA; simp only [Ar.std, Int.ofNat_eq_natCast, Int.toNat_natCast, Bool.not_eq_true', Bool.not_eq_false', decide_eq_true_eq, decide_eq_false_iff_not] at *)
      rw [f2, hend (by omega)]

def cHold : Nat × Sig := (51, ⟨[BOU], [BOOL], false⟩)

set_option maxHeartbeats 1000000 in
theorem pres_pure {ro A pre fn} (hE : EnvOk ⟨A, (cxE ro), ksF, sigL [cHold], pre, fn⟩) (hp : pre 51 = fun _ => True) (hh : fn 51 = holdRes) : PureC (cxE ro) 35 ⟨[BS, I64], [EVS, I64], false⟩ (fun _ => True) presRes := by
  have hA := hE.A
  simp only [] at hA
  have hinl : ∀ f fn, inlL [(77, Tryz.f77)] f = some fn → (cxE ro).fn f = some fn ∧ (cxE ro).ext f = none := Inls.ok (by repeat (first | exact .nil | refine .cons rfl rfl ?_))
  refine PureC.of_vc hE hinl 2 (f := 35) (fn := Tryz.f35) ⟨rfl, rfl⟩ ?_
  intro a ha t _
  obtain ⟨R, hR⟩ : ∃ R, presRes [[.l a], [.i t]] = R := ⟨_, rfl⟩
  rw [hR]
  have f0 : presOk a t → R 0 0 = .l (presL t a 0 ++ [[.i t, .i (a.length : Int)]]) ∧ R 1 0 = .i 0 := fun h => by rw [← hR]; simp [presRes, h]
  have f1 : ¬ presOk a t → R 0 0 = .l [] ∧ R 1 0 = .i 3 := fun h => by rw [← hR]; simp [presRes, h]
  have hq : (fn 51 [[.l [[.i (a.length : Int), .i 1, .i 30], [.i t, .i 0, .i 9999]]]] 0 0).boo = true ↔ presOk a t := by
    rw [hh]
    simp only [holdRes, D.boo, List.all_cons, List.all_nil, within, presOk, List.getD_cons_zero, List.getD_cons_succ, D.int, Bool.and_true, Bool.and_eq_true, decide_eq_true_eq]
    omega
  have hq1 : A.not (A.db (fn 51 [[.l [[.i (A.nat (A.len a)), .i 1, .i 30], [.i t, .i 0, .i 9999]]]] 0 0)) = true → ¬ presOk a t := by
    subst hA
    intro h hok
    have h : (!(fn 51 [[.l [[.i (a.length : Int), .i 1, .i 30], [.i t, .i 0, .i 9999]]]] 0 0).boo) = true := h
    rw [hq.2 hok] at h; cases h
  have hq2 : A.not (A.db (fn 51 [[.l [[.i (A.nat (A.len a)), .i 1, .i 30], [.i t, .i 0, .i 9999]]]] 0 0)) = false → presOk a t := by
    subst hA
    intro h
    have h : (!(fn 51 [[.l [[.i (a.length : Int), .i 1, .i 30], [.i t, .i 0, .i 9999]]]] 0 0).boo) = false := h
    exact hq.1 (by simpa using h)
  have hnil : ∀ {P : Prop}, presOk a t → A.pNle (A.len a) 0 → P := by
    subst hA
    intro P hok h
    have h : a.length ≤ 0 := h
    have := hok.1.1
    omega
  clear hR hq
  cbv
  repeat' (first | (refine Br.mk (fun _ => ?_) (fun _ => ?_) <;> cbv) | (refine NilB.mk (fun _ => ?_) ?_ <;> cbv) | refine And.intro ?_ ?_ | exact True.intro)
  all_goals first
    | (rw [hp]; trivial)
    | exact (f1 (hq1 (by assumption))).1
    | exact (f1 (hq1 (by assumption))).2
    | exact hnil (hq2 (by assumption)) (by assumption)
    | skip
  all_goals
    have hok : presOk a t := hq2 (by assumption)
    have hlen : a.length ≤ 30 := hok.1.2
    obtain ⟨f2, f3⟩ := f0 hok
    clear f0 f1 hq1 hq2 hnil
  · clear hE hinl hp hh; (subst hA; simp only [Ar.std, Int.ofNat_eq_natCast, Int.toNat_natCast, Bool.not_eq_true', Bool.not_eq_false', decide_eq_true_eq, decide_eq_false_iff_not] at *); simp only [List.length_nil]; omega
  · clear hE hinl hp hh; (subst hA; simp only [Ar.std, Int.ofNat_eq_natCast, Int.toNat_natCast, Bool.not_eq_true', Bool.not_eq_false', decide_eq_true_eq, decide_eq_false_iff_not] at *); simp only [List.length_nil, List.length_cons, List.nil_append]; omega
  obtain ⟨b, hb⟩ : ∃ b, a ++ [[D.b true]] = b := ⟨_, rfl⟩
  have hbl : b.length = a.length + 1 := by rw [← hb]; simp
  have hend : presL t b 0 = presL t a 0 ++ [[.i t, .i (a.length : Int)]] := by rw [← hb, presL_app]; simp [D.boo]
  refine loopA hE hinl 2 [] [] (fun r : Nat => [.l (presL t (b.take r) 0), .i (r : Int)]) (fun r => r ≤ b.length) (fun r => b.length - r) 0 (Nat.zero_le _) ?_ ?_
  · cbv
    exact ⟨rfl, trivial⟩
  · intro r hr K hK
    have hl := presL_len t (b.take r) 0
    rw [List.length_take, Nat.min_eq_left hr] at hl
    have hnx : r < b.length → presL t (b.take (r + 1)) 0 = presL t (b.take r) 0 ++ (if (gt b r 0).boo then [[.i t, .i (r : Int)]] else []) := fun h => presL_next t h
    have hfin : ¬ r < b.length → presL t (b.take r) 0 = presL t b 0 := fun h => by rw [List.take_of_length_le (by omega)]
    obtain ⟨o, ho⟩ : ∃ o, presL t (b.take r) 0 = o := ⟨_, rfl⟩
    have hb' : Ar.std.app (Ar.std.app [] a) [[D.b true]] = b := by rw [← hb]; rfl
    rw [ho] at hl hnx hfin ⊢
    clear hb
    cbv
    repeat' (first | (refine Br.mk (fun _ => ?_) (fun _ => ?_) <;> cbv) | (refine NilB.mk (fun _ => ?_) ?_ <;> cbv) | refine And.intro ?_ ?_ | exact True.intro)
    all_goals first
      | (clear hE hinl hK hp hh; subst hA; simp only [hb'] at *; simp only [Ar.std, Int.ofNat_eq_natCast, Int.toNat_natCast, Bool.not_eq_true', Bool.not_eq_false', decide_eq_true_eq, decide_eq_false_iff_not] at *; first | omega | (rw [i64_in]; omega) | (simp only [List.length_cons, List.length_nil]; omega) | assumption)
      | skip
    · obtain ⟨o2, ho2⟩ : ∃ o, presL t (b.take (r + 1)) 0 = o := ⟨_, rfl⟩
      rw [ho2] at hnx
      rename_i h1 h2
      have h3 : r < b.length ∧ (gt b r 0).boo = true := by
        clear hE hinl hK hp hh
        subst hA
        rw [hb'] at h1 h2
        have h1 : decide ((r : Int) < (b.length : Int)) = true := h1
        have h2 : (gt b r 0).boo = true := h2
        rw [decide_eq_true_eq] at h1
        exact ⟨by omega, h2⟩
      clear h1 h2
      refine hK (r + 1) _ ?_ ?_ ?_
      · have := h3.1; omega
      · have := h3.1; omega
      · try dsimp only
        rw [ho2]
        clear hE hinl hK ho ho2 hend f2 f3 hok
        cbv
        subst hA
        rw [hnx h3.1, if_pos h3.2]
        exact ⟨rfl, rfl, trivial⟩
    · obtain ⟨o2, ho2⟩ : ∃ o, presL t (b.take (r + 1)) 0 = o := ⟨_, rfl⟩
      rw [ho2] at hnx
      rename_i h1 h2
      have h3 : r < b.length ∧ (gt b r 0).boo = false := by
        clear hE hinl hK hp hh
        subst hA
        rw [hb'] at h1 h2
        have h1 : decide ((r : Int) < (b.length : Int)) = true := h1
        have h2 : (gt b r 0).boo = false := h2
        rw [decide_eq_true_eq] at h1
        exact ⟨by omega, h2⟩
      clear h1 h2
      refine hK (r + 1) _ ?_ ?_ ?_
      · have := h3.1; omega
      · have := h3.1; omega
      · try dsimp only
        rw [ho2]
        clear hE hinl hK ho ho2 hend f2 f3 hok
        cbv
        subst hA
        rw [hnx h3.1, if_neg (by rw [h3.2]; simp), List.append_nil]
        exact ⟨rfl, rfl, trivial⟩
    · rename_i h1
      have h3 : ¬ r < b.length := by
        clear hE hinl hK hp hh
        subst hA
        rw [hb'] at h1
        have h1 : decide ((r : Int) < (b.length : Int)) = false := h1
        rw [decide_eq_false_iff_not] at h1
        omega
      rw [f2, hfin h3, hend]
end HX

namespace HX
open Go Go.Proofs CX
structure V33 (pre : Nat → List (List D) → Prop) (fn : Nat → List (List D) → Nat → Nat → D) (a0 : Int) (a1 : Rows) (R : Nat → Nat → D) (I0 : Int → Int → Prop) (m0 : Int → Int → Nat) (I1 : Int → Int → Int → Rows → Int → Rows → Prop) (m1 : Int → Int → Int → Rows → Int → Rows → Nat) (I2 : Int → Int → Int → Rows → Int → Rows → Int → Int → Int → Rows → Prop) (m2 : Int → Int → Int → Rows → Int → Rows → Int → Int → Int → Rows → Nat) (I3 : Int → Int → Int → Rows → Int → Rows → Int → Int → Int → Rows → Int → Rows → Prop) (m3 : Int → Int → Int → Rows → Int → Rows → Int → Int → Int → Rows → Int → Rows → Nat) (I4 : Int → Int → Int → Rows → Int → Rows → Int → Int → Int → Rows → Int → Rows → Int → Rows → Prop) (m4 : Int → Int → Int → Rows → Int → Rows → Int → Int → Int → Rows → Int → Rows → Int → Rows → Nat) (I5 : Int → Int → Int → Rows → Int → Rows → Int → Int → Int → Rows → Int → Rows → Prop) (m5 : Int → Int → Int → Rows → Int → Rows → Int → Int → Int → Rows → Int → Rows → Nat) : Prop where
  g0 : pre 68 [[D.i a0], [D.l a1]]
  g1 : (¬ (D.int (fn 68 [[D.i a0], [D.l a1]] 0 0)) = 0) → R 0 0 = D.l []
  g2 : (¬ (D.int (fn 68 [[D.i a0], [D.l a1]] 0 0)) = 0) → R 0 1 = D.i 0
  g3 : (¬ (D.int (fn 68 [[D.i a0], [D.l a1]] 0 0)) = 0) → R 0 2 = D.l []
  g4 : (¬ (D.int (fn 68 [[D.i a0], [D.l a1]] 0 0)) = 0) → R 1 0 = D.i (D.int (fn 68 [[D.i a0], [D.l a1]] 0 0))
  i0 : ((D.int (fn 68 [[D.i a0], [D.l a1]] 0 0)) = 0) → I0 0 0
  g6 : ∀ x0_0 x0_1, I0 x0_0 x0_1 → ((D.int (fn 68 [[D.i a0], [D.l a1]] 0 0)) = 0) → (x0_1 < (a1.length : Int)) → 0 ≤ x0_1
  g7 : ∀ x0_0 x0_1, I0 x0_0 x0_1 → ((D.int (fn 68 [[D.i a0], [D.l a1]] 0 0)) = 0) → (x0_1 < (a1.length : Int)) → x0_1 < (a1.length : Int)
  g8 : ∀ x0_0 x0_1, I0 x0_0 x0_1 → ((D.int (fn 68 [[D.i a0], [D.l a1]] 0 0)) = 0) → (x0_1 < (a1.length : Int)) → -9223372036854775808 ≤ (x0_0 + ((((D.rows (gt a1 x0_1.toNat 0))).length : Int))) ∧ (x0_0 + ((((D.rows (gt a1 x0_1.toNat 0))).length : Int))) ≤ 9223372036854775807
  g9 : ∀ x0_0 x0_1, I0 x0_0 x0_1 → ((D.int (fn 68 [[D.i a0], [D.l a1]] 0 0)) = 0) → (x0_1 < (a1.length : Int)) → -9223372036854775808 ≤ (x0_1 + 1) ∧ (x0_1 + 1) ≤ 9223372036854775807
  n10 : ∀ x0_0 x0_1, I0 x0_0 x0_1 → ((D.int (fn 68 [[D.i a0], [D.l a1]] 0 0)) = 0) → (x0_1 < (a1.length : Int)) → I0 (x0_0 + ((((D.rows (gt a1 x0_1.toNat 0))).length : Int))) (x0_1 + 1) ∧ m0 (x0_0 + ((((D.rows (gt a1 x0_1.toNat 0))).length : Int))) (x0_1 + 1) < m0 x0_0 x0_1
  g11 : ∀ x0_0 x0_1, I0 x0_0 x0_1 → ((D.int (fn 68 [[D.i a0], [D.l a1]] 0 0)) = 0) → (¬ x0_1 < (a1.length : Int)) → -9223372036854775808 ≤ (a0 + 1) ∧ (a0 + 1) ≤ 9223372036854775807
  i1 : ∀ x0_0 x0_1, I0 x0_0 x0_1 → ((D.int (fn 68 [[D.i a0], [D.l a1]] 0 0)) = 0) → (¬ x0_1 < (a1.length : Int)) → I1 x0_0 x0_1 0 [] (a0 + 1) []
  g13 : ∀ x0_0 x0_1, I0 x0_0 x0_1 → ∀ x1_0 x1_1 x1_2 x1_3, I1 x0_0 x0_1 x1_0 x1_1 x1_2 x1_3 → ((D.int (fn 68 [[D.i a0], [D.l a1]] 0 0)) = 0) → (¬ x0_1 < (a1.length : Int)) → -9223372036854775808 ≤ (x0_0 + (a1.length : Int)) ∧ (x0_0 + (a1.length : Int)) ≤ 9223372036854775807
  g14 : ∀ x0_0 x0_1, I0 x0_0 x0_1 → ∀ x1_0 x1_1 x1_2 x1_3, I1 x0_0 x0_1 x1_0 x1_1 x1_2 x1_3 → ((D.int (fn 68 [[D.i a0], [D.l a1]] 0 0)) = 0) → (¬ x0_1 < (a1.length : Int)) → -9223372036854775808 ≤ ((x0_0 + (a1.length : Int)) - 1) ∧ ((x0_0 + (a1.length : Int)) - 1) ≤ 9223372036854775807
  g15 : ∀ x0_0 x0_1, I0 x0_0 x0_1 → ∀ x1_0 x1_1 x1_2 x1_3, I1 x0_0 x0_1 x1_0 x1_1 x1_2 x1_3 → ((D.int (fn 68 [[D.i a0], [D.l a1]] 0 0)) = 0) → (¬ x0_1 < (a1.length : Int)) → (x1_0 < ((x0_0 + (a1.length : Int)) - 1)) → (x1_1.length + (List.length ([[D.i 2, D.i 256, D.i 0, D.i 1, D.i 0, D.i 0, D.i 0, D.i 0]] : Rows))) * 64 ≤ 4294967296 ∧ (x1_1.length + (List.length ([[D.i 2, D.i 256, D.i 0, D.i 1, D.i 0, D.i 0, D.i 0, D.i 0]] : Rows))) ≤ 4294967296
  g16 : ∀ x0_0 x0_1, I0 x0_0 x0_1 → ∀ x1_0 x1_1 x1_2 x1_3, I1 x0_0 x0_1 x1_0 x1_1 x1_2 x1_3 → ((D.int (fn 68 [[D.i a0], [D.l a1]] 0 0)) = 0) → (¬ x0_1 < (a1.length : Int)) → (x1_0 < ((x0_0 + (a1.length : Int)) - 1)) → -9223372036854775808 ≤ (x1_0 + 1) ∧ (x1_0 + 1) ≤ 9223372036854775807
  n17 : ∀ x0_0 x0_1, I0 x0_0 x0_1 → ∀ x1_0 x1_1 x1_2 x1_3, I1 x0_0 x0_1 x1_0 x1_1 x1_2 x1_3 → ((D.int (fn 68 [[D.i a0], [D.l a1]] 0 0)) = 0) → (¬ x0_1 < (a1.length : Int)) → (x1_0 < ((x0_0 + (a1.length : Int)) - 1)) → I1 x0_0 x0_1 (x1_0 + 1) (x1_1 ++ [[D.i 2, D.i 256, D.i 0, D.i 1, D.i 0, D.i 0, D.i 0, D.i 0]]) x1_2 x1_3 ∧ m1 x0_0 x0_1 (x1_0 + 1) (x1_1 ++ [[D.i 2, D.i 256, D.i 0, D.i 1, D.i 0, D.i 0, D.i 0, D.i 0]]) x1_2 x1_3 < m1 x0_0 x0_1 x1_0 x1_1 x1_2 x1_3
  i2 : ∀ x0_0 x0_1, I0 x0_0 x0_1 → ∀ x1_0 x1_1 x1_2 x1_3, I1 x0_0 x0_1 x1_0 x1_1 x1_2 x1_3 → ((D.int (fn 68 [[D.i a0], [D.l a1]] 0 0)) = 0) → (¬ x0_1 < (a1.length : Int)) → (¬ x1_0 < ((x0_0 + (a1.length : Int)) - 1)) → I2 x0_0 x0_1 x1_0 x1_1 x1_2 x1_3 0 0 0 x1_3
  i3 : ∀ x0_0 x0_1, I0 x0_0 x0_1 → ∀ x1_0 x1_1 x1_2 x1_3, I1 x0_0 x0_1 x1_0 x1_1 x1_2 x1_3 → ∀ x2_0 x2_1 x2_2 x2_3, I2 x0_0 x0_1 x1_0 x1_1 x1_2 x1_3 x2_0 x2_1 x2_2 x2_3 → ((D.int (fn 68 [[D.i a0], [D.l a1]] 0 0)) = 0) → (¬ x0_1 < (a1.length : Int)) → (¬ x1_0 < ((x0_0 + (a1.length : Int)) - 1)) → (x2_2 < (a1.length : Int)) → I3 x0_0 x0_1 x1_0 x1_1 x1_2 x1_3 x2_0 x2_1 x2_2 x2_3 0 x2_3
  g20 : ∀ x0_0 x0_1, I0 x0_0 x0_1 → ∀ x1_0 x1_1 x1_2 x1_3, I1 x0_0 x0_1 x1_0 x1_1 x1_2 x1_3 → ∀ x2_0 x2_1 x2_2 x2_3, I2 x0_0 x0_1 x1_0 x1_1 x1_2 x1_3 x2_0 x2_1 x2_2 x2_3 → ∀ x3_0 x3_1, I3 x0_0 x0_1 x1_0 x1_1 x1_2 x1_3 x2_0 x2_1 x2_2 x2_3 x3_0 x3_1 → ((D.int (fn 68 [[D.i a0], [D.l a1]] 0 0)) = 0) → (¬ x0_1 < (a1.length : Int)) → (¬ x1_0 < ((x0_0 + (a1.length : Int)) - 1)) → (x2_2 < (a1.length : Int)) → 0 ≤ x2_2
  g21 : ∀ x0_0 x0_1, I0 x0_0 x0_1 → ∀ x1_0 x1_1 x1_2 x1_3, I1 x0_0 x0_1 x1_0 x1_1 x1_2 x1_3 → ∀ x2_0 x2_1 x2_2 x2_3, I2 x0_0 x0_1 x1_0 x1_1 x1_2 x1_3 x2_0 x2_1 x2_2 x2_3 → ∀ x3_0 x3_1, I3 x0_0 x0_1 x1_0 x1_1 x1_2 x1_3 x2_0 x2_1 x2_2 x2_3 x3_0 x3_1 → ((D.int (fn 68 [[D.i a0], [D.l a1]] 0 0)) = 0) → (¬ x0_1 < (a1.length : Int)) → (¬ x1_0 < ((x0_0 + (a1.length : Int)) - 1)) → (x2_2 < (a1.length : Int)) → x2_2 < (a1.length : Int)
  i4 : ∀ x0_0 x0_1, I0 x0_0 x0_1 → ∀ x1_0 x1_1 x1_2 x1_3, I1 x0_0 x0_1 x1_0 x1_1 x1_2 x1_3 → ∀ x2_0 x2_1 x2_2 x2_3, I2 x0_0 x0_1 x1_0 x1_1 x1_2 x1_3 x2_0 x2_1 x2_2 x2_3 → ∀ x3_0 x3_1, I3 x0_0 x0_1 x1_0 x1_1 x1_2 x1_3 x2_0 x2_1 x2_2 x2_3 x3_0 x3_1 → ((D.int (fn 68 [[D.i a0], [D.l a1]] 0 0)) = 0) → (¬ x0_1 < (a1.length : Int)) → (¬ x1_0 < ((x0_0 + (a1.length : Int)) - 1)) → (x2_2 < (a1.length : Int)) → (x3_0 < ((((D.rows (gt a1 x2_2.toNat 0))).length : Int))) → I4 x0_0 x0_1 x1_0 x1_1 x1_2 x1_3 x2_0 x2_1 x2_2 x2_3 x3_0 x3_1 0 x3_1
  g23 : ∀ x0_0 x0_1, I0 x0_0 x0_1 → ∀ x1_0 x1_1 x1_2 x1_3, I1 x0_0 x0_1 x1_0 x1_1 x1_2 x1_3 → ∀ x2_0 x2_1 x2_2 x2_3, I2 x0_0 x0_1 x1_0 x1_1 x1_2 x1_3 x2_0 x2_1 x2_2 x2_3 → ∀ x3_0 x3_1, I3 x0_0 x0_1 x1_0 x1_1 x1_2 x1_3 x2_0 x2_1 x2_2 x2_3 x3_0 x3_1 → ∀ x4_0 x4_1, I4 x0_0 x0_1 x1_0 x1_1 x1_2 x1_3 x2_0 x2_1 x2_2 x2_3 x3_0 x3_1 x4_0 x4_1 → ((D.int (fn 68 [[D.i a0], [D.l a1]] 0 0)) = 0) → (¬ x0_1 < (a1.length : Int)) → (¬ x1_0 < ((x0_0 + (a1.length : Int)) - 1)) → (x2_2 < (a1.length : Int)) → (x3_0 < ((((D.rows (gt a1 x2_2.toNat 0))).length : Int))) → 0 ≤ x2_2
  g24 : ∀ x0_0 x0_1, I0 x0_0 x0_1 → ∀ x1_0 x1_1 x1_2 x1_3, I1 x0_0 x0_1 x1_0 x1_1 x1_2 x1_3 → ∀ x2_0 x2_1 x2_2 x2_3, I2 x0_0 x0_1 x1_0 x1_1 x1_2 x1_3 x2_0 x2_1 x2_2 x2_3 → ∀ x3_0 x3_1, I3 x0_0 x0_1 x1_0 x1_1 x1_2 x1_3 x2_0 x2_1 x2_2 x2_3 x3_0 x3_1 → ∀ x4_0 x4_1, I4 x0_0 x0_1 x1_0 x1_1 x1_2 x1_3 x2_0 x2_1 x2_2 x2_3 x3_0 x3_1 x4_0 x4_1 → ((D.int (fn 68 [[D.i a0], [D.l a1]] 0 0)) = 0) → (¬ x0_1 < (a1.length : Int)) → (¬ x1_0 < ((x0_0 + (a1.length : Int)) - 1)) → (x2_2 < (a1.length : Int)) → (x3_0 < ((((D.rows (gt a1 x2_2.toNat 0))).length : Int))) → x2_2 < (a1.length : Int)
  g25 : ∀ x0_0 x0_1, I0 x0_0 x0_1 → ∀ x1_0 x1_1 x1_2 x1_3, I1 x0_0 x0_1 x1_0 x1_1 x1_2 x1_3 → ∀ x2_0 x2_1 x2_2 x2_3, I2 x0_0 x0_1 x1_0 x1_1 x1_2 x1_3 x2_0 x2_1 x2_2 x2_3 → ∀ x3_0 x3_1, I3 x0_0 x0_1 x1_0 x1_1 x1_2 x1_3 x2_0 x2_1 x2_2 x2_3 x3_0 x3_1 → ∀ x4_0 x4_1, I4 x0_0 x0_1 x1_0 x1_1 x1_2 x1_3 x2_0 x2_1 x2_2 x2_3 x3_0 x3_1 x4_0 x4_1 → ((D.int (fn 68 [[D.i a0], [D.l a1]] 0 0)) = 0) → (¬ x0_1 < (a1.length : Int)) → (¬ x1_0 < ((x0_0 + (a1.length : Int)) - 1)) → (x2_2 < (a1.length : Int)) → (x3_0 < ((((D.rows (gt a1 x2_2.toNat 0))).length : Int))) → 0 ≤ x3_0
  g26 : ∀ x0_0 x0_1, I0 x0_0 x0_1 → ∀ x1_0 x1_1 x1_2 x1_3, I1 x0_0 x0_1 x1_0 x1_1 x1_2 x1_3 → ∀ x2_0 x2_1 x2_2 x2_3, I2 x0_0 x0_1 x1_0 x1_1 x1_2 x1_3 x2_0 x2_1 x2_2 x2_3 → ∀ x3_0 x3_1, I3 x0_0 x0_1 x1_0 x1_1 x1_2 x1_3 x2_0 x2_1 x2_2 x2_3 x3_0 x3_1 → ∀ x4_0 x4_1, I4 x0_0 x0_1 x1_0 x1_1 x1_2 x1_3 x2_0 x2_1 x2_2 x2_3 x3_0 x3_1 x4_0 x4_1 → ((D.int (fn 68 [[D.i a0], [D.l a1]] 0 0)) = 0) → (¬ x0_1 < (a1.length : Int)) → (¬ x1_0 < ((x0_0 + (a1.length : Int)) - 1)) → (x2_2 < (a1.length : Int)) → (x3_0 < ((((D.rows (gt a1 x2_2.toNat 0))).length : Int))) → x3_0 < ((((D.rows (gt a1 x2_2.toNat 0))).length : Int))
  g27 : ∀ x0_0 x0_1, I0 x0_0 x0_1 → ∀ x1_0 x1_1 x1_2 x1_3, I1 x0_0 x0_1 x1_0 x1_1 x1_2 x1_3 → ∀ x2_0 x2_1 x2_2 x2_3, I2 x0_0 x0_1 x1_0 x1_1 x1_2 x1_3 x2_0 x2_1 x2_2 x2_3 → ∀ x3_0 x3_1, I3 x0_0 x0_1 x1_0 x1_1 x1_2 x1_3 x2_0 x2_1 x2_2 x2_3 x3_0 x3_1 → ∀ x4_0 x4_1, I4 x0_0 x0_1 x1_0 x1_1 x1_2 x1_3 x2_0 x2_1 x2_2 x2_3 x3_0 x3_1 x4_0 x4_1 → ((D.int (fn 68 [[D.i a0], [D.l a1]] 0 0)) = 0) → (¬ x0_1 < (a1.length : Int)) → (¬ x1_0 < ((x0_0 + (a1.length : Int)) - 1)) → (x2_2 < (a1.length : Int)) → (x3_0 < ((((D.rows (gt a1 x2_2.toNat 0))).length : Int))) → (x4_0 < ((((D.rows (gt (D.rows (gt a1 x2_2.toNat 0)) x3_0.toNat 0))).length : Int))) → -9223372036854775808 ≤ (x2_0 + x4_0) ∧ (x2_0 + x4_0) ≤ 9223372036854775807
  g28 : ∀ x0_0 x0_1, I0 x0_0 x0_1 → ∀ x1_0 x1_1 x1_2 x1_3, I1 x0_0 x0_1 x1_0 x1_1 x1_2 x1_3 → ∀ x2_0 x2_1 x2_2 x2_3, I2 x0_0 x0_1 x1_0 x1_1 x1_2 x1_3 x2_0 x2_1 x2_2 x2_3 → ∀ x3_0 x3_1, I3 x0_0 x0_1 x1_0 x1_1 x1_2 x1_3 x2_0 x2_1 x2_2 x2_3 x3_0 x3_1 → ∀ x4_0 x4_1, I4 x0_0 x0_1 x1_0 x1_1 x1_2 x1_3 x2_0 x2_1 x2_2 x2_3 x3_0 x3_1 x4_0 x4_1 → ((D.int (fn 68 [[D.i a0], [D.l a1]] 0 0)) = 0) → (¬ x0_1 < (a1.length : Int)) → (¬ x1_0 < ((x0_0 + (a1.length : Int)) - 1)) → (x2_2 < (a1.length : Int)) → (x3_0 < ((((D.rows (gt a1 x2_2.toNat 0))).length : Int))) → (x4_0 < ((((D.rows (gt (D.rows (gt a1 x2_2.toNat 0)) x3_0.toNat 0))).length : Int))) → (x2_2 = 0) → -9223372036854775808 ≤ ((-1) - x4_0) ∧ ((-1) - x4_0) ≤ 9223372036854775807
  g29 : ∀ x0_0 x0_1, I0 x0_0 x0_1 → ∀ x1_0 x1_1 x1_2 x1_3, I1 x0_0 x0_1 x1_0 x1_1 x1_2 x1_3 → ∀ x2_0 x2_1 x2_2 x2_3, I2 x0_0 x0_1 x1_0 x1_1 x1_2 x1_3 x2_0 x2_1 x2_2 x2_3 → ∀ x3_0 x3_1, I3 x0_0 x0_1 x1_0 x1_1 x1_2 x1_3 x2_0 x2_1 x2_2 x2_3 x3_0 x3_1 → ∀ x4_0 x4_1, I4 x0_0 x0_1 x1_0 x1_1 x1_2 x1_3 x2_0 x2_1 x2_2 x2_3 x3_0 x3_1 x4_0 x4_1 → ((D.int (fn 68 [[D.i a0], [D.l a1]] 0 0)) = 0) → (¬ x0_1 < (a1.length : Int)) → (¬ x1_0 < ((x0_0 + (a1.length : Int)) - 1)) → (x2_2 < (a1.length : Int)) → (x3_0 < ((((D.rows (gt a1 x2_2.toNat 0))).length : Int))) → (x4_0 < ((((D.rows (gt (D.rows (gt a1 x2_2.toNat 0)) x3_0.toNat 0))).length : Int))) → (x2_2 = 0) → -9223372036854775808 ≤ (x2_1 + x3_0) ∧ (x2_1 + x3_0) ≤ 9223372036854775807
  g30 : ∀ x0_0 x0_1, I0 x0_0 x0_1 → ∀ x1_0 x1_1 x1_2 x1_3, I1 x0_0 x0_1 x1_0 x1_1 x1_2 x1_3 → ∀ x2_0 x2_1 x2_2 x2_3, I2 x0_0 x0_1 x1_0 x1_1 x1_2 x1_3 x2_0 x2_1 x2_2 x2_3 → ∀ x3_0 x3_1, I3 x0_0 x0_1 x1_0 x1_1 x1_2 x1_3 x2_0 x2_1 x2_2 x2_3 x3_0 x3_1 → ∀ x4_0 x4_1, I4 x0_0 x0_1 x1_0 x1_1 x1_2 x1_3 x2_0 x2_1 x2_2 x2_3 x3_0 x3_1 x4_0 x4_1 → ((D.int (fn 68 [[D.i a0], [D.l a1]] 0 0)) = 0) → (¬ x0_1 < (a1.length : Int)) → (¬ x1_0 < ((x0_0 + (a1.length : Int)) - 1)) → (x2_2 < (a1.length : Int)) → (x3_0 < ((((D.rows (gt a1 x2_2.toNat 0))).length : Int))) → (x4_0 < ((((D.rows (gt (D.rows (gt a1 x2_2.toNat 0)) x3_0.toNat 0))).length : Int))) → (x2_2 = 0) → 0 ≤ x2_2
  g31 : ∀ x0_0 x0_1, I0 x0_0 x0_1 → ∀ x1_0 x1_1 x1_2 x1_3, I1 x0_0 x0_1 x1_0 x1_1 x1_2 x1_3 → ∀ x2_0 x2_1 x2_2 x2_3, I2 x0_0 x0_1 x1_0 x1_1 x1_2 x1_3 x2_0 x2_1 x2_2 x2_3 → ∀ x3_0 x3_1, I3 x0_0 x0_1 x1_0 x1_1 x1_2 x1_3 x2_0 x2_1 x2_2 x2_3 x3_0 x3_1 → ∀ x4_0 x4_1, I4 x0_0 x0_1 x1_0 x1_1 x1_2 x1_3 x2_0 x2_1 x2_2 x2_3 x3_0 x3_1 x4_0 x4_1 → ((D.int (fn 68 [[D.i a0], [D.l a1]] 0 0)) = 0) → (¬ x0_1 < (a1.length : Int)) → (¬ x1_0 < ((x0_0 + (a1.length : Int)) - 1)) → (x2_2 < (a1.length : Int)) → (x3_0 < ((((D.rows (gt a1 x2_2.toNat 0))).length : Int))) → (x4_0 < ((((D.rows (gt (D.rows (gt a1 x2_2.toNat 0)) x3_0.toNat 0))).length : Int))) → (x2_2 = 0) → x2_2 < (a1.length : Int)
  g32 : ∀ x0_0 x0_1, I0 x0_0 x0_1 → ∀ x1_0 x1_1 x1_2 x1_3, I1 x0_0 x0_1 x1_0 x1_1 x1_2 x1_3 → ∀ x2_0 x2_1 x2_2 x2_3, I2 x0_0 x0_1 x1_0 x1_1 x1_2 x1_3 x2_0 x2_1 x2_2 x2_3 → ∀ x3_0 x3_1, I3 x0_0 x0_1 x1_0 x1_1 x1_2 x1_3 x2_0 x2_1 x2_2 x2_3 x3_0 x3_1 → ∀ x4_0 x4_1, I4 x0_0 x0_1 x1_0 x1_1 x1_2 x1_3 x2_0 x2_1 x2_2 x2_3 x3_0 x3_1 x4_0 x4_1 → ((D.int (fn 68 [[D.i a0], [D.l a1]] 0 0)) = 0) → (¬ x0_1 < (a1.length : Int)) → (¬ x1_0 < ((x0_0 + (a1.length : Int)) - 1)) → (x2_2 < (a1.length : Int)) → (x3_0 < ((((D.rows (gt a1 x2_2.toNat 0))).length : Int))) → (x4_0 < ((((D.rows (gt (D.rows (gt a1 x2_2.toNat 0)) x3_0.toNat 0))).length : Int))) → (x2_2 = 0) → 0 ≤ x3_0
  g33 : ∀ x0_0 x0_1, I0 x0_0 x0_1 → ∀ x1_0 x1_1 x1_2 x1_3, I1 x0_0 x0_1 x1_0 x1_1 x1_2 x1_3 → ∀ x2_0 x2_1 x2_2 x2_3, I2 x0_0 x0_1 x1_0 x1_1 x1_2 x1_3 x2_0 x2_1 x2_2 x2_3 → ∀ x3_0 x3_1, I3 x0_0 x0_1 x1_0 x1_1 x1_2 x1_3 x2_0 x2_1 x2_2 x2_3 x3_0 x3_1 → ∀ x4_0 x4_1, I4 x0_0 x0_1 x1_0 x1_1 x1_2 x1_3 x2_0 x2_1 x2_2 x2_3 x3_0 x3_1 x4_0 x4_1 → ((D.int (fn 68 [[D.i a0], [D.l a1]] 0 0)) = 0) → (¬ x0_1 < (a1.length : Int)) → (¬ x1_0 < ((x0_0 + (a1.length : Int)) - 1)) → (x2_2 < (a1.length : Int)) → (x3_0 < ((((D.rows (gt a1 x2_2.toNat 0))).length : Int))) → (x4_0 < ((((D.rows (gt (D.rows (gt a1 x2_2.toNat 0)) x3_0.toNat 0))).length : Int))) → (x2_2 = 0) → x3_0 < ((((D.rows (gt a1 x2_2.toNat 0))).length : Int))
  g34 : ∀ x0_0 x0_1, I0 x0_0 x0_1 → ∀ x1_0 x1_1 x1_2 x1_3, I1 x0_0 x0_1 x1_0 x1_1 x1_2 x1_3 → ∀ x2_0 x2_1 x2_2 x2_3, I2 x0_0 x0_1 x1_0 x1_1 x1_2 x1_3 x2_0 x2_1 x2_2 x2_3 → ∀ x3_0 x3_1, I3 x0_0 x0_1 x1_0 x1_1 x1_2 x1_3 x2_0 x2_1 x2_2 x2_3 x3_0 x3_1 → ∀ x4_0 x4_1, I4 x0_0 x0_1 x1_0 x1_1 x1_2 x1_3 x2_0 x2_1 x2_2 x2_3 x3_0 x3_1 x4_0 x4_1 → ((D.int (fn 68 [[D.i a0], [D.l a1]] 0 0)) = 0) → (¬ x0_1 < (a1.length : Int)) → (¬ x1_0 < ((x0_0 + (a1.length : Int)) - 1)) → (x2_2 < (a1.length : Int)) → (x3_0 < ((((D.rows (gt a1 x2_2.toNat 0))).length : Int))) → (x4_0 < ((((D.rows (gt (D.rows (gt a1 x2_2.toNat 0)) x3_0.toNat 0))).length : Int))) → (x2_2 = 0) → 0 ≤ x4_0
  g35 : ∀ x0_0 x0_1, I0 x0_0 x0_1 → ∀ x1_0 x1_1 x1_2 x1_3, I1 x0_0 x0_1 x1_0 x1_1 x1_2 x1_3 → ∀ x2_0 x2_1 x2_2 x2_3, I2 x0_0 x0_1 x1_0 x1_1 x1_2 x1_3 x2_0 x2_1 x2_2 x2_3 → ∀ x3_0 x3_1, I3 x0_0 x0_1 x1_0 x1_1 x1_2 x1_3 x2_0 x2_1 x2_2 x2_3 x3_0 x3_1 → ∀ x4_0 x4_1, I4 x0_0 x0_1 x1_0 x1_1 x1_2 x1_3 x2_0 x2_1 x2_2 x2_3 x3_0 x3_1 x4_0 x4_1 → ((D.int (fn 68 [[D.i a0], [D.l a1]] 0 0)) = 0) → (¬ x0_1 < (a1.length : Int)) → (¬ x1_0 < ((x0_0 + (a1.length : Int)) - 1)) → (x2_2 < (a1.length : Int)) → (x3_0 < ((((D.rows (gt a1 x2_2.toNat 0))).length : Int))) → (x4_0 < ((((D.rows (gt (D.rows (gt a1 x2_2.toNat 0)) x3_0.toNat 0))).length : Int))) → (x2_2 = 0) → x4_0 < ((((D.rows (gt (D.rows (gt a1 x2_2.toNat 0)) x3_0.toNat 0))).length : Int))
  g36 : ∀ x0_0 x0_1, I0 x0_0 x0_1 → ∀ x1_0 x1_1 x1_2 x1_3, I1 x0_0 x0_1 x1_0 x1_1 x1_2 x1_3 → ∀ x2_0 x2_1 x2_2 x2_3, I2 x0_0 x0_1 x1_0 x1_1 x1_2 x1_3 x2_0 x2_1 x2_2 x2_3 → ∀ x3_0 x3_1, I3 x0_0 x0_1 x1_0 x1_1 x1_2 x1_3 x2_0 x2_1 x2_2 x2_3 x3_0 x3_1 → ∀ x4_0 x4_1, I4 x0_0 x0_1 x1_0 x1_1 x1_2 x1_3 x2_0 x2_1 x2_2 x2_3 x3_0 x3_1 x4_0 x4_1 → ((D.int (fn 68 [[D.i a0], [D.l a1]] 0 0)) = 0) → (¬ x0_1 < (a1.length : Int)) → (¬ x1_0 < ((x0_0 + (a1.length : Int)) - 1)) → (x2_2 < (a1.length : Int)) → (x3_0 < ((((D.rows (gt a1 x2_2.toNat 0))).length : Int))) → (x4_0 < ((((D.rows (gt (D.rows (gt a1 x2_2.toNat 0)) x3_0.toNat 0))).length : Int))) → (x2_2 = 0) → (x4_1.length + (List.length ([[D.i ((-1) - x4_0), D.i (x2_1 + x3_0), D.i (D.int (gt (D.rows (gt (D.rows (gt a1 x2_2.toNat 0)) x3_0.toNat 0)) x4_0.toNat 0)), D.i 1]] : Rows))) * 32 ≤ 4294967296 ∧ (x4_1.length + (List.length ([[D.i ((-1) - x4_0), D.i (x2_1 + x3_0), D.i (D.int (gt (D.rows (gt (D.rows (gt a1 x2_2.toNat 0)) x3_0.toNat 0)) x4_0.toNat 0)), D.i 1]] : Rows))) ≤ 4294967296
  g37 : ∀ x0_0 x0_1, I0 x0_0 x0_1 → ∀ x1_0 x1_1 x1_2 x1_3, I1 x0_0 x0_1 x1_0 x1_1 x1_2 x1_3 → ∀ x2_0 x2_1 x2_2 x2_3, I2 x0_0 x0_1 x1_0 x1_1 x1_2 x1_3 x2_0 x2_1 x2_2 x2_3 → ∀ x3_0 x3_1, I3 x0_0 x0_1 x1_0 x1_1 x1_2 x1_3 x2_0 x2_1 x2_2 x2_3 x3_0 x3_1 → ∀ x4_0 x4_1, I4 x0_0 x0_1 x1_0 x1_1 x1_2 x1_3 x2_0 x2_1 x2_2 x2_3 x3_0 x3_1 x4_0 x4_1 → ((D.int (fn 68 [[D.i a0], [D.l a1]] 0 0)) = 0) → (¬ x0_1 < (a1.length : Int)) → (¬ x1_0 < ((x0_0 + (a1.length : Int)) - 1)) → (x2_2 < (a1.length : Int)) → (x3_0 < ((((D.rows (gt a1 x2_2.toNat 0))).length : Int))) → (x4_0 < ((((D.rows (gt (D.rows (gt a1 x2_2.toNat 0)) x3_0.toNat 0))).length : Int))) → (x2_2 = 0) → -9223372036854775808 ≤ (x4_0 + 1) ∧ (x4_0 + 1) ≤ 9223372036854775807
  n38 : ∀ x0_0 x0_1, I0 x0_0 x0_1 → ∀ x1_0 x1_1 x1_2 x1_3, I1 x0_0 x0_1 x1_0 x1_1 x1_2 x1_3 → ∀ x2_0 x2_1 x2_2 x2_3, I2 x0_0 x0_1 x1_0 x1_1 x1_2 x1_3 x2_0 x2_1 x2_2 x2_3 → ∀ x3_0 x3_1, I3 x0_0 x0_1 x1_0 x1_1 x1_2 x1_3 x2_0 x2_1 x2_2 x2_3 x3_0 x3_1 → ∀ x4_0 x4_1, I4 x0_0 x0_1 x1_0 x1_1 x1_2 x1_3 x2_0 x2_1 x2_2 x2_3 x3_0 x3_1 x4_0 x4_1 → ((D.int (fn 68 [[D.i a0], [D.l a1]] 0 0)) = 0) → (¬ x0_1 < (a1.length : Int)) → (¬ x1_0 < ((x0_0 + (a1.length : Int)) - 1)) → (x2_2 < (a1.length : Int)) → (x3_0 < ((((D.rows (gt a1 x2_2.toNat 0))).length : Int))) → (x4_0 < ((((D.rows (gt (D.rows (gt a1 x2_2.toNat 0)) x3_0.toNat 0))).length : Int))) → (x2_2 = 0) → I4 x0_0 x0_1 x1_0 x1_1 x1_2 x1_3 x2_0 x2_1 x2_2 x2_3 x3_0 x3_1 (x4_0 + 1) (x4_1 ++ [[D.i ((-1) - x4_0), D.i (x2_1 + x3_0), D.i (D.int (gt (D.rows (gt (D.rows (gt a1 x2_2.toNat 0)) x3_0.toNat 0)) x4_0.toNat 0)), D.i 1]]) ∧ m4 x0_0 x0_1 x1_0 x1_1 x1_2 x1_3 x2_0 x2_1 x2_2 x2_3 x3_0 x3_1 (x4_0 + 1) (x4_1 ++ [[D.i ((-1) - x4_0), D.i (x2_1 + x3_0), D.i (D.int (gt (D.rows (gt (D.rows (gt a1 x2_2.toNat 0)) x3_0.toNat 0)) x4_0.toNat 0)), D.i 1]]) < m4 x0_0 x0_1 x1_0 x1_1 x1_2 x1_3 x2_0 x2_1 x2_2 x2_3 x3_0 x3_1 x4_0 x4_1
  g39 : ∀ x0_0 x0_1, I0 x0_0 x0_1 → ∀ x1_0 x1_1 x1_2 x1_3, I1 x0_0 x0_1 x1_0 x1_1 x1_2 x1_3 → ∀ x2_0 x2_1 x2_2 x2_3, I2 x0_0 x0_1 x1_0 x1_1 x1_2 x1_3 x2_0 x2_1 x2_2 x2_3 → ∀ x3_0 x3_1, I3 x0_0 x0_1 x1_0 x1_1 x1_2 x1_3 x2_0 x2_1 x2_2 x2_3 x3_0 x3_1 → ∀ x4_0 x4_1, I4 x0_0 x0_1 x1_0 x1_1 x1_2 x1_3 x2_0 x2_1 x2_2 x2_3 x3_0 x3_1 x4_0 x4_1 → ((D.int (fn 68 [[D.i a0], [D.l a1]] 0 0)) = 0) → (¬ x0_1 < (a1.length : Int)) → (¬ x1_0 < ((x0_0 + (a1.length : Int)) - 1)) → (x2_2 < (a1.length : Int)) → (x3_0 < ((((D.rows (gt a1 x2_2.toNat 0))).length : Int))) → (x4_0 < ((((D.rows (gt (D.rows (gt a1 x2_2.toNat 0)) x3_0.toNat 0))).length : Int))) → (¬ x2_2 = 0) → -9223372036854775808 ≤ (x2_1 + x3_0) ∧ (x2_1 + x3_0) ≤ 9223372036854775807
  g40 : ∀ x0_0 x0_1, I0 x0_0 x0_1 → ∀ x1_0 x1_1 x1_2 x1_3, I1 x0_0 x0_1 x1_0 x1_1 x1_2 x1_3 → ∀ x2_0 x2_1 x2_2 x2_3, I2 x0_0 x0_1 x1_0 x1_1 x1_2 x1_3 x2_0 x2_1 x2_2 x2_3 → ∀ x3_0 x3_1, I3 x0_0 x0_1 x1_0 x1_1 x1_2 x1_3 x2_0 x2_1 x2_2 x2_3 x3_0 x3_1 → ∀ x4_0 x4_1, I4 x0_0 x0_1 x1_0 x1_1 x1_2 x1_3 x2_0 x2_1 x2_2 x2_3 x3_0 x3_1 x4_0 x4_1 → ((D.int (fn 68 [[D.i a0], [D.l a1]] 0 0)) = 0) → (¬ x0_1 < (a1.length : Int)) → (¬ x1_0 < ((x0_0 + (a1.length : Int)) - 1)) → (x2_2 < (a1.length : Int)) → (x3_0 < ((((D.rows (gt a1 x2_2.toNat 0))).length : Int))) → (x4_0 < ((((D.rows (gt (D.rows (gt a1 x2_2.toNat 0)) x3_0.toNat 0))).length : Int))) → (¬ x2_2 = 0) → 0 ≤ x2_2
  g41 : ∀ x0_0 x0_1, I0 x0_0 x0_1 → ∀ x1_0 x1_1 x1_2 x1_3, I1 x0_0 x0_1 x1_0 x1_1 x1_2 x1_3 → ∀ x2_0 x2_1 x2_2 x2_3, I2 x0_0 x0_1 x1_0 x1_1 x1_2 x1_3 x2_0 x2_1 x2_2 x2_3 → ∀ x3_0 x3_1, I3 x0_0 x0_1 x1_0 x1_1 x1_2 x1_3 x2_0 x2_1 x2_2 x2_3 x3_0 x3_1 → ∀ x4_0 x4_1, I4 x0_0 x0_1 x1_0 x1_1 x1_2 x1_3 x2_0 x2_1 x2_2 x2_3 x3_0 x3_1 x4_0 x4_1 → ((D.int (fn 68 [[D.i a0], [D.l a1]] 0 0)) = 0) → (¬ x0_1 < (a1.length : Int)) → (¬ x1_0 < ((x0_0 + (a1.length : Int)) - 1)) → (x2_2 < (a1.length : Int)) → (x3_0 < ((((D.rows (gt a1 x2_2.toNat 0))).length : Int))) → (x4_0 < ((((D.rows (gt (D.rows (gt a1 x2_2.toNat 0)) x3_0.toNat 0))).length : Int))) → (¬ x2_2 = 0) → x2_2 < (a1.length : Int)
  g42 : ∀ x0_0 x0_1, I0 x0_0 x0_1 → ∀ x1_0 x1_1 x1_2 x1_3, I1 x0_0 x0_1 x1_0 x1_1 x1_2 x1_3 → ∀ x2_0 x2_1 x2_2 x2_3, I2 x0_0 x0_1 x1_0 x1_1 x1_2 x1_3 x2_0 x2_1 x2_2 x2_3 → ∀ x3_0 x3_1, I3 x0_0 x0_1 x1_0 x1_1 x1_2 x1_3 x2_0 x2_1 x2_2 x2_3 x3_0 x3_1 → ∀ x4_0 x4_1, I4 x0_0 x0_1 x1_0 x1_1 x1_2 x1_3 x2_0 x2_1 x2_2 x2_3 x3_0 x3_1 x4_0 x4_1 → ((D.int (fn 68 [[D.i a0], [D.l a1]] 0 0)) = 0) → (¬ x0_1 < (a1.length : Int)) → (¬ x1_0 < ((x0_0 + (a1.length : Int)) - 1)) → (x2_2 < (a1.length : Int)) → (x3_0 < ((((D.rows (gt a1 x2_2.toNat 0))).length : Int))) → (x4_0 < ((((D.rows (gt (D.rows (gt a1 x2_2.toNat 0)) x3_0.toNat 0))).length : Int))) → (¬ x2_2 = 0) → 0 ≤ x3_0
  g43 : ∀ x0_0 x0_1, I0 x0_0 x0_1 → ∀ x1_0 x1_1 x1_2 x1_3, I1 x0_0 x0_1 x1_0 x1_1 x1_2 x1_3 → ∀ x2_0 x2_1 x2_2 x2_3, I2 x0_0 x0_1 x1_0 x1_1 x1_2 x1_3 x2_0 x2_1 x2_2 x2_3 → ∀ x3_0 x3_1, I3 x0_0 x0_1 x1_0 x1_1 x1_2 x1_3 x2_0 x2_1 x2_2 x2_3 x3_0 x3_1 → ∀ x4_0 x4_1, I4 x0_0 x0_1 x1_0 x1_1 x1_2 x1_3 x2_0 x2_1 x2_2 x2_3 x3_0 x3_1 x4_0 x4_1 → ((D.int (fn 68 [[D.i a0], [D.l a1]] 0 0)) = 0) → (¬ x0_1 < (a1.length : Int)) → (¬ x1_0 < ((x0_0 + (a1.length : Int)) - 1)) → (x2_2 < (a1.length : Int)) → (x3_0 < ((((D.rows (gt a1 x2_2.toNat 0))).length : Int))) → (x4_0 < ((((D.rows (gt (D.rows (gt a1 x2_2.toNat 0)) x3_0.toNat 0))).length : Int))) → (¬ x2_2 = 0) → x3_0 < ((((D.rows (gt a1 x2_2.toNat 0))).length : Int))
  g44 : ∀ x0_0 x0_1, I0 x0_0 x0_1 → ∀ x1_0 x1_1 x1_2 x1_3, I1 x0_0 x0_1 x1_0 x1_1 x1_2 x1_3 → ∀ x2_0 x2_1 x2_2 x2_3, I2 x0_0 x0_1 x1_0 x1_1 x1_2 x1_3 x2_0 x2_1 x2_2 x2_3 → ∀ x3_0 x3_1, I3 x0_0 x0_1 x1_0 x1_1 x1_2 x1_3 x2_0 x2_1 x2_2 x2_3 x3_0 x3_1 → ∀ x4_0 x4_1, I4 x0_0 x0_1 x1_0 x1_1 x1_2 x1_3 x2_0 x2_1 x2_2 x2_3 x3_0 x3_1 x4_0 x4_1 → ((D.int (fn 68 [[D.i a0], [D.l a1]] 0 0)) = 0) → (¬ x0_1 < (a1.length : Int)) → (¬ x1_0 < ((x0_0 + (a1.length : Int)) - 1)) → (x2_2 < (a1.length : Int)) → (x3_0 < ((((D.rows (gt a1 x2_2.toNat 0))).length : Int))) → (x4_0 < ((((D.rows (gt (D.rows (gt a1 x2_2.toNat 0)) x3_0.toNat 0))).length : Int))) → (¬ x2_2 = 0) → 0 ≤ x4_0
  g45 : ∀ x0_0 x0_1, I0 x0_0 x0_1 → ∀ x1_0 x1_1 x1_2 x1_3, I1 x0_0 x0_1 x1_0 x1_1 x1_2 x1_3 → ∀ x2_0 x2_1 x2_2 x2_3, I2 x0_0 x0_1 x1_0 x1_1 x1_2 x1_3 x2_0 x2_1 x2_2 x2_3 → ∀ x3_0 x3_1, I3 x0_0 x0_1 x1_0 x1_1 x1_2 x1_3 x2_0 x2_1 x2_2 x2_3 x3_0 x3_1 → ∀ x4_0 x4_1, I4 x0_0 x0_1 x1_0 x1_1 x1_2 x1_3 x2_0 x2_1 x2_2 x2_3 x3_0 x3_1 x4_0 x4_1 → ((D.int (fn 68 [[D.i a0], [D.l a1]] 0 0)) = 0) → (¬ x0_1 < (a1.length : Int)) → (¬ x1_0 < ((x0_0 + (a1.length : Int)) - 1)) → (x2_2 < (a1.length : Int)) → (x3_0 < ((((D.rows (gt a1 x2_2.toNat 0))).length : Int))) → (x4_0 < ((((D.rows (gt (D.rows (gt a1 x2_2.toNat 0)) x3_0.toNat 0))).length : Int))) → (¬ x2_2 = 0) → x4_0 < ((((D.rows (gt (D.rows (gt a1 x2_2.toNat 0)) x3_0.toNat 0))).length : Int))
  g46 : ∀ x0_0 x0_1, I0 x0_0 x0_1 → ∀ x1_0 x1_1 x1_2 x1_3, I1 x0_0 x0_1 x1_0 x1_1 x1_2 x1_3 → ∀ x2_0 x2_1 x2_2 x2_3, I2 x0_0 x0_1 x1_0 x1_1 x1_2 x1_3 x2_0 x2_1 x2_2 x2_3 → ∀ x3_0 x3_1, I3 x0_0 x0_1 x1_0 x1_1 x1_2 x1_3 x2_0 x2_1 x2_2 x2_3 x3_0 x3_1 → ∀ x4_0 x4_1, I4 x0_0 x0_1 x1_0 x1_1 x1_2 x1_3 x2_0 x2_1 x2_2 x2_3 x3_0 x3_1 x4_0 x4_1 → ((D.int (fn 68 [[D.i a0], [D.l a1]] 0 0)) = 0) → (¬ x0_1 < (a1.length : Int)) → (¬ x1_0 < ((x0_0 + (a1.length : Int)) - 1)) → (x2_2 < (a1.length : Int)) → (x3_0 < ((((D.rows (gt a1 x2_2.toNat 0))).length : Int))) → (x4_0 < ((((D.rows (gt (D.rows (gt a1 x2_2.toNat 0)) x3_0.toNat 0))).length : Int))) → (¬ x2_2 = 0) → (x4_1.length + (List.length ([[D.i (x2_0 + x4_0), D.i (x2_1 + x3_0), D.i (D.int (gt (D.rows (gt (D.rows (gt a1 x2_2.toNat 0)) x3_0.toNat 0)) x4_0.toNat 0)), D.i 1]] : Rows))) * 32 ≤ 4294967296 ∧ (x4_1.length + (List.length ([[D.i (x2_0 + x4_0), D.i (x2_1 + x3_0), D.i (D.int (gt (D.rows (gt (D.rows (gt a1 x2_2.toNat 0)) x3_0.toNat 0)) x4_0.toNat 0)), D.i 1]] : Rows))) ≤ 4294967296
  g47 : ∀ x0_0 x0_1, I0 x0_0 x0_1 → ∀ x1_0 x1_1 x1_2 x1_3, I1 x0_0 x0_1 x1_0 x1_1 x1_2 x1_3 → ∀ x2_0 x2_1 x2_2 x2_3, I2 x0_0 x0_1 x1_0 x1_1 x1_2 x1_3 x2_0 x2_1 x2_2 x2_3 → ∀ x3_0 x3_1, I3 x0_0 x0_1 x1_0 x1_1 x1_2 x1_3 x2_0 x2_1 x2_2 x2_3 x3_0 x3_1 → ∀ x4_0 x4_1, I4 x0_0 x0_1 x1_0 x1_1 x1_2 x1_3 x2_0 x2_1 x2_2 x2_3 x3_0 x3_1 x4_0 x4_1 → ((D.int (fn 68 [[D.i a0], [D.l a1]] 0 0)) = 0) → (¬ x0_1 < (a1.length : Int)) → (¬ x1_0 < ((x0_0 + (a1.length : Int)) - 1)) → (x2_2 < (a1.length : Int)) → (x3_0 < ((((D.rows (gt a1 x2_2.toNat 0))).length : Int))) → (x4_0 < ((((D.rows (gt (D.rows (gt a1 x2_2.toNat 0)) x3_0.toNat 0))).length : Int))) → (¬ x2_2 = 0) → -9223372036854775808 ≤ (x4_0 + 1) ∧ (x4_0 + 1) ≤ 9223372036854775807
  n48 : ∀ x0_0 x0_1, I0 x0_0 x0_1 → ∀ x1_0 x1_1 x1_2 x1_3, I1 x0_0 x0_1 x1_0 x1_1 x1_2 x1_3 → ∀ x2_0 x2_1 x2_2 x2_3, I2 x0_0 x0_1 x1_0 x1_1 x1_2 x1_3 x2_0 x2_1 x2_2 x2_3 → ∀ x3_0 x3_1, I3 x0_0 x0_1 x1_0 x1_1 x1_2 x1_3 x2_0 x2_1 x2_2 x2_3 x3_0 x3_1 → ∀ x4_0 x4_1, I4 x0_0 x0_1 x1_0 x1_1 x1_2 x1_3 x2_0 x2_1 x2_2 x2_3 x3_0 x3_1 x4_0 x4_1 → ((D.int (fn 68 [[D.i a0], [D.l a1]] 0 0)) = 0) → (¬ x0_1 < (a1.length : Int)) → (¬ x1_0 < ((x0_0 + (a1.length : Int)) - 1)) → (x2_2 < (a1.length : Int)) → (x3_0 < ((((D.rows (gt a1 x2_2.toNat 0))).length : Int))) → (x4_0 < ((((D.rows (gt (D.rows (gt a1 x2_2.toNat 0)) x3_0.toNat 0))).length : Int))) → (¬ x2_2 = 0) → I4 x0_0 x0_1 x1_0 x1_1 x1_2 x1_3 x2_0 x2_1 x2_2 x2_3 x3_0 x3_1 (x4_0 + 1) (x4_1 ++ [[D.i (x2_0 + x4_0), D.i (x2_1 + x3_0), D.i (D.int (gt (D.rows (gt (D.rows (gt a1 x2_2.toNat 0)) x3_0.toNat 0)) x4_0.toNat 0)), D.i 1]]) ∧ m4 x0_0 x0_1 x1_0 x1_1 x1_2 x1_3 x2_0 x2_1 x2_2 x2_3 x3_0 x3_1 (x4_0 + 1) (x4_1 ++ [[D.i (x2_0 + x4_0), D.i (x2_1 + x3_0), D.i (D.int (gt (D.rows (gt (D.rows (gt a1 x2_2.toNat 0)) x3_0.toNat 0)) x4_0.toNat 0)), D.i 1]]) < m4 x0_0 x0_1 x1_0 x1_1 x1_2 x1_3 x2_0 x2_1 x2_2 x2_3 x3_0 x3_1 x4_0 x4_1
  g49 : ∀ x0_0 x0_1, I0 x0_0 x0_1 → ∀ x1_0 x1_1 x1_2 x1_3, I1 x0_0 x0_1 x1_0 x1_1 x1_2 x1_3 → ∀ x2_0 x2_1 x2_2 x2_3, I2 x0_0 x0_1 x1_0 x1_1 x1_2 x1_3 x2_0 x2_1 x2_2 x2_3 → ∀ x3_0 x3_1, I3 x0_0 x0_1 x1_0 x1_1 x1_2 x1_3 x2_0 x2_1 x2_2 x2_3 x3_0 x3_1 → ∀ x4_0 x4_1, I4 x0_0 x0_1 x1_0 x1_1 x1_2 x1_3 x2_0 x2_1 x2_2 x2_3 x3_0 x3_1 x4_0 x4_1 → ((D.int (fn 68 [[D.i a0], [D.l a1]] 0 0)) = 0) → (¬ x0_1 < (a1.length : Int)) → (¬ x1_0 < ((x0_0 + (a1.length : Int)) - 1)) → (x2_2 < (a1.length : Int)) → (x3_0 < ((((D.rows (gt a1 x2_2.toNat 0))).length : Int))) → (¬ x4_0 < ((((D.rows (gt (D.rows (gt a1 x2_2.toNat 0)) x3_0.toNat 0))).length : Int))) → -9223372036854775808 ≤ (x0_0 + x2_2) ∧ (x0_0 + x2_2) ≤ 9223372036854775807
  g50 : ∀ x0_0 x0_1, I0 x0_0 x0_1 → ∀ x1_0 x1_1 x1_2 x1_3, I1 x0_0 x0_1 x1_0 x1_1 x1_2 x1_3 → ∀ x2_0 x2_1 x2_2 x2_3, I2 x0_0 x0_1 x1_0 x1_1 x1_2 x1_3 x2_0 x2_1 x2_2 x2_3 → ∀ x3_0 x3_1, I3 x0_0 x0_1 x1_0 x1_1 x1_2 x1_3 x2_0 x2_1 x2_2 x2_3 x3_0 x3_1 → ∀ x4_0 x4_1, I4 x0_0 x0_1 x1_0 x1_1 x1_2 x1_3 x2_0 x2_1 x2_2 x2_3 x3_0 x3_1 x4_0 x4_1 → ((D.int (fn 68 [[D.i a0], [D.l a1]] 0 0)) = 0) → (¬ x0_1 < (a1.length : Int)) → (¬ x1_0 < ((x0_0 + (a1.length : Int)) - 1)) → (x2_2 < (a1.length : Int)) → (x3_0 < ((((D.rows (gt a1 x2_2.toNat 0))).length : Int))) → (¬ x4_0 < ((((D.rows (gt (D.rows (gt a1 x2_2.toNat 0)) x3_0.toNat 0))).length : Int))) → -9223372036854775808 ≤ ((x0_0 + x2_2) - 1) ∧ ((x0_0 + x2_2) - 1) ≤ 9223372036854775807
  g51 : ∀ x0_0 x0_1, I0 x0_0 x0_1 → ∀ x1_0 x1_1 x1_2 x1_3, I1 x0_0 x0_1 x1_0 x1_1 x1_2 x1_3 → ∀ x2_0 x2_1 x2_2 x2_3, I2 x0_0 x0_1 x1_0 x1_1 x1_2 x1_3 x2_0 x2_1 x2_2 x2_3 → ∀ x3_0 x3_1, I3 x0_0 x0_1 x1_0 x1_1 x1_2 x1_3 x2_0 x2_1 x2_2 x2_3 x3_0 x3_1 → ∀ x4_0 x4_1, I4 x0_0 x0_1 x1_0 x1_1 x1_2 x1_3 x2_0 x2_1 x2_2 x2_3 x3_0 x3_1 x4_0 x4_1 → ((D.int (fn 68 [[D.i a0], [D.l a1]] 0 0)) = 0) → (¬ x0_1 < (a1.length : Int)) → (¬ x1_0 < ((x0_0 + (a1.length : Int)) - 1)) → (x2_2 < (a1.length : Int)) → (x3_0 < ((((D.rows (gt a1 x2_2.toNat 0))).length : Int))) → (¬ x4_0 < ((((D.rows (gt (D.rows (gt a1 x2_2.toNat 0)) x3_0.toNat 0))).length : Int))) → (x2_2 = 0) → -9223372036854775808 ≤ ((-1) - a0) ∧ ((-1) - a0) ≤ 9223372036854775807
  g52 : ∀ x0_0 x0_1, I0 x0_0 x0_1 → ∀ x1_0 x1_1 x1_2 x1_3, I1 x0_0 x0_1 x1_0 x1_1 x1_2 x1_3 → ∀ x2_0 x2_1 x2_2 x2_3, I2 x0_0 x0_1 x1_0 x1_1 x1_2 x1_3 x2_0 x2_1 x2_2 x2_3 → ∀ x3_0 x3_1, I3 x0_0 x0_1 x1_0 x1_1 x1_2 x1_3 x2_0 x2_1 x2_2 x2_3 x3_0 x3_1 → ∀ x4_0 x4_1, I4 x0_0 x0_1 x1_0 x1_1 x1_2 x1_3 x2_0 x2_1 x2_2 x2_3 x3_0 x3_1 x4_0 x4_1 → ((D.int (fn 68 [[D.i a0], [D.l a1]] 0 0)) = 0) → (¬ x0_1 < (a1.length : Int)) → (¬ x1_0 < ((x0_0 + (a1.length : Int)) - 1)) → (x2_2 < (a1.length : Int)) → (x3_0 < ((((D.rows (gt a1 x2_2.toNat 0))).length : Int))) → (¬ x4_0 < ((((D.rows (gt (D.rows (gt a1 x2_2.toNat 0)) x3_0.toNat 0))).length : Int))) → (x2_2 = 0) → -9223372036854775808 ≤ (x2_1 + x3_0) ∧ (x2_1 + x3_0) ≤ 9223372036854775807
  g53 : ∀ x0_0 x0_1, I0 x0_0 x0_1 → ∀ x1_0 x1_1 x1_2 x1_3, I1 x0_0 x0_1 x1_0 x1_1 x1_2 x1_3 → ∀ x2_0 x2_1 x2_2 x2_3, I2 x0_0 x0_1 x1_0 x1_1 x1_2 x1_3 x2_0 x2_1 x2_2 x2_3 → ∀ x3_0 x3_1, I3 x0_0 x0_1 x1_0 x1_1 x1_2 x1_3 x2_0 x2_1 x2_2 x2_3 x3_0 x3_1 → ∀ x4_0 x4_1, I4 x0_0 x0_1 x1_0 x1_1 x1_2 x1_3 x2_0 x2_1 x2_2 x2_3 x3_0 x3_1 x4_0 x4_1 → ((D.int (fn 68 [[D.i a0], [D.l a1]] 0 0)) = 0) → (¬ x0_1 < (a1.length : Int)) → (¬ x1_0 < ((x0_0 + (a1.length : Int)) - 1)) → (x2_2 < (a1.length : Int)) → (x3_0 < ((((D.rows (gt a1 x2_2.toNat 0))).length : Int))) → (¬ x4_0 < ((((D.rows (gt (D.rows (gt a1 x2_2.toNat 0)) x3_0.toNat 0))).length : Int))) → (x2_2 = 0) → 0 ≤ x2_2
  g54 : ∀ x0_0 x0_1, I0 x0_0 x0_1 → ∀ x1_0 x1_1 x1_2 x1_3, I1 x0_0 x0_1 x1_0 x1_1 x1_2 x1_3 → ∀ x2_0 x2_1 x2_2 x2_3, I2 x0_0 x0_1 x1_0 x1_1 x1_2 x1_3 x2_0 x2_1 x2_2 x2_3 → ∀ x3_0 x3_1, I3 x0_0 x0_1 x1_0 x1_1 x1_2 x1_3 x2_0 x2_1 x2_2 x2_3 x3_0 x3_1 → ∀ x4_0 x4_1, I4 x0_0 x0_1 x1_0 x1_1 x1_2 x1_3 x2_0 x2_1 x2_2 x2_3 x3_0 x3_1 x4_0 x4_1 → ((D.int (fn 68 [[D.i a0], [D.l a1]] 0 0)) = 0) → (¬ x0_1 < (a1.length : Int)) → (¬ x1_0 < ((x0_0 + (a1.length : Int)) - 1)) → (x2_2 < (a1.length : Int)) → (x3_0 < ((((D.rows (gt a1 x2_2.toNat 0))).length : Int))) → (¬ x4_0 < ((((D.rows (gt (D.rows (gt a1 x2_2.toNat 0)) x3_0.toNat 0))).length : Int))) → (x2_2 = 0) → x2_2 < (a1.length : Int)
  g55 : ∀ x0_0 x0_1, I0 x0_0 x0_1 → ∀ x1_0 x1_1 x1_2 x1_3, I1 x0_0 x0_1 x1_0 x1_1 x1_2 x1_3 → ∀ x2_0 x2_1 x2_2 x2_3, I2 x0_0 x0_1 x1_0 x1_1 x1_2 x1_3 x2_0 x2_1 x2_2 x2_3 → ∀ x3_0 x3_1, I3 x0_0 x0_1 x1_0 x1_1 x1_2 x1_3 x2_0 x2_1 x2_2 x2_3 x3_0 x3_1 → ∀ x4_0 x4_1, I4 x0_0 x0_1 x1_0 x1_1 x1_2 x1_3 x2_0 x2_1 x2_2 x2_3 x3_0 x3_1 x4_0 x4_1 → ((D.int (fn 68 [[D.i a0], [D.l a1]] 0 0)) = 0) → (¬ x0_1 < (a1.length : Int)) → (¬ x1_0 < ((x0_0 + (a1.length : Int)) - 1)) → (x2_2 < (a1.length : Int)) → (x3_0 < ((((D.rows (gt a1 x2_2.toNat 0))).length : Int))) → (¬ x4_0 < ((((D.rows (gt (D.rows (gt a1 x2_2.toNat 0)) x3_0.toNat 0))).length : Int))) → (x2_2 = 0) → 0 ≤ x3_0
  g56 : ∀ x0_0 x0_1, I0 x0_0 x0_1 → ∀ x1_0 x1_1 x1_2 x1_3, I1 x0_0 x0_1 x1_0 x1_1 x1_2 x1_3 → ∀ x2_0 x2_1 x2_2 x2_3, I2 x0_0 x0_1 x1_0 x1_1 x1_2 x1_3 x2_0 x2_1 x2_2 x2_3 → ∀ x3_0 x3_1, I3 x0_0 x0_1 x1_0 x1_1 x1_2 x1_3 x2_0 x2_1 x2_2 x2_3 x3_0 x3_1 → ∀ x4_0 x4_1, I4 x0_0 x0_1 x1_0 x1_1 x1_2 x1_3 x2_0 x2_1 x2_2 x2_3 x3_0 x3_1 x4_0 x4_1 → ((D.int (fn 68 [[D.i a0], [D.l a1]] 0 0)) = 0) → (¬ x0_1 < (a1.length : Int)) → (¬ x1_0 < ((x0_0 + (a1.length : Int)) - 1)) → (x2_2 < (a1.length : Int)) → (x3_0 < ((((D.rows (gt a1 x2_2.toNat 0))).length : Int))) → (¬ x4_0 < ((((D.rows (gt (D.rows (gt a1 x2_2.toNat 0)) x3_0.toNat 0))).length : Int))) → (x2_2 = 0) → x3_0 < ((((D.rows (gt a1 x2_2.toNat 1))).length : Int))
  g57 : ∀ x0_0 x0_1, I0 x0_0 x0_1 → ∀ x1_0 x1_1 x1_2 x1_3, I1 x0_0 x0_1 x1_0 x1_1 x1_2 x1_3 → ∀ x2_0 x2_1 x2_2 x2_3, I2 x0_0 x0_1 x1_0 x1_1 x1_2 x1_3 x2_0 x2_1 x2_2 x2_3 → ∀ x3_0 x3_1, I3 x0_0 x0_1 x1_0 x1_1 x1_2 x1_3 x2_0 x2_1 x2_2 x2_3 x3_0 x3_1 → ∀ x4_0 x4_1, I4 x0_0 x0_1 x1_0 x1_1 x1_2 x1_3 x2_0 x2_1 x2_2 x2_3 x3_0 x3_1 x4_0 x4_1 → ((D.int (fn 68 [[D.i a0], [D.l a1]] 0 0)) = 0) → (¬ x0_1 < (a1.length : Int)) → (¬ x1_0 < ((x0_0 + (a1.length : Int)) - 1)) → (x2_2 < (a1.length : Int)) → (x3_0 < ((((D.rows (gt a1 x2_2.toNat 0))).length : Int))) → (¬ x4_0 < ((((D.rows (gt (D.rows (gt a1 x2_2.toNat 0)) x3_0.toNat 0))).length : Int))) → (x2_2 = 0) → -9223372036854775808 ≤ (1 - (D.int (gt (D.rows (gt a1 x2_2.toNat 1)) x3_0.toNat 0))) ∧ (1 - (D.int (gt (D.rows (gt a1 x2_2.toNat 1)) x3_0.toNat 0))) ≤ 9223372036854775807
  g58 : ∀ x0_0 x0_1, I0 x0_0 x0_1 → ∀ x1_0 x1_1 x1_2 x1_3, I1 x0_0 x0_1 x1_0 x1_1 x1_2 x1_3 → ∀ x2_0 x2_1 x2_2 x2_3, I2 x0_0 x0_1 x1_0 x1_1 x1_2 x1_3 x2_0 x2_1 x2_2 x2_3 → ∀ x3_0 x3_1, I3 x0_0 x0_1 x1_0 x1_1 x1_2 x1_3 x2_0 x2_1 x2_2 x2_3 x3_0 x3_1 → ∀ x4_0 x4_1, I4 x0_0 x0_1 x1_0 x1_1 x1_2 x1_3 x2_0 x2_1 x2_2 x2_3 x3_0 x3_1 x4_0 x4_1 → ((D.int (fn 68 [[D.i a0], [D.l a1]] 0 0)) = 0) → (¬ x0_1 < (a1.length : Int)) → (¬ x1_0 < ((x0_0 + (a1.length : Int)) - 1)) → (x2_2 < (a1.length : Int)) → (x3_0 < ((((D.rows (gt a1 x2_2.toNat 0))).length : Int))) → (¬ x4_0 < ((((D.rows (gt (D.rows (gt a1 x2_2.toNat 0)) x3_0.toNat 0))).length : Int))) → (x2_2 = 0) → (x4_1.length + (List.length ([[D.i ((-1) - a0), D.i (x2_1 + x3_0), D.i (1 - (D.int (gt (D.rows (gt a1 x2_2.toNat 1)) x3_0.toNat 0))), D.i 1]] : Rows))) * 32 ≤ 4294967296 ∧ (x4_1.length + (List.length ([[D.i ((-1) - a0), D.i (x2_1 + x3_0), D.i (1 - (D.int (gt (D.rows (gt a1 x2_2.toNat 1)) x3_0.toNat 0))), D.i 1]] : Rows))) ≤ 4294967296
  g59 : ∀ x0_0 x0_1, I0 x0_0 x0_1 → ∀ x1_0 x1_1 x1_2 x1_3, I1 x0_0 x0_1 x1_0 x1_1 x1_2 x1_3 → ∀ x2_0 x2_1 x2_2 x2_3, I2 x0_0 x0_1 x1_0 x1_1 x1_2 x1_3 x2_0 x2_1 x2_2 x2_3 → ∀ x3_0 x3_1, I3 x0_0 x0_1 x1_0 x1_1 x1_2 x1_3 x2_0 x2_1 x2_2 x2_3 x3_0 x3_1 → ∀ x4_0 x4_1, I4 x0_0 x0_1 x1_0 x1_1 x1_2 x1_3 x2_0 x2_1 x2_2 x2_3 x3_0 x3_1 x4_0 x4_1 → ((D.int (fn 68 [[D.i a0], [D.l a1]] 0 0)) = 0) → (¬ x0_1 < (a1.length : Int)) → (¬ x1_0 < ((x0_0 + (a1.length : Int)) - 1)) → (x2_2 < (a1.length : Int)) → (x3_0 < ((((D.rows (gt a1 x2_2.toNat 0))).length : Int))) → (¬ x4_0 < ((((D.rows (gt (D.rows (gt a1 x2_2.toNat 0)) x3_0.toNat 0))).length : Int))) → (x2_2 = 0) → -9223372036854775808 ≤ (x3_0 + 1) ∧ (x3_0 + 1) ≤ 9223372036854775807
  n60 : ∀ x0_0 x0_1, I0 x0_0 x0_1 → ∀ x1_0 x1_1 x1_2 x1_3, I1 x0_0 x0_1 x1_0 x1_1 x1_2 x1_3 → ∀ x2_0 x2_1 x2_2 x2_3, I2 x0_0 x0_1 x1_0 x1_1 x1_2 x1_3 x2_0 x2_1 x2_2 x2_3 → ∀ x3_0 x3_1, I3 x0_0 x0_1 x1_0 x1_1 x1_2 x1_3 x2_0 x2_1 x2_2 x2_3 x3_0 x3_1 → ∀ x4_0 x4_1, I4 x0_0 x0_1 x1_0 x1_1 x1_2 x1_3 x2_0 x2_1 x2_2 x2_3 x3_0 x3_1 x4_0 x4_1 → ((D.int (fn 68 [[D.i a0], [D.l a1]] 0 0)) = 0) → (¬ x0_1 < (a1.length : Int)) → (¬ x1_0 < ((x0_0 + (a1.length : Int)) - 1)) → (x2_2 < (a1.length : Int)) → (x3_0 < ((((D.rows (gt a1 x2_2.toNat 0))).length : Int))) → (¬ x4_0 < ((((D.rows (gt (D.rows (gt a1 x2_2.toNat 0)) x3_0.toNat 0))).length : Int))) → (x2_2 = 0) → I3 x0_0 x0_1 x1_0 x1_1 x1_2 x1_3 x2_0 x2_1 x2_2 x2_3 (x3_0 + 1) (x4_1 ++ [[D.i ((-1) - a0), D.i (x2_1 + x3_0), D.i (1 - (D.int (gt (D.rows (gt a1 x2_2.toNat 1)) x3_0.toNat 0))), D.i 1]]) ∧ m3 x0_0 x0_1 x1_0 x1_1 x1_2 x1_3 x2_0 x2_1 x2_2 x2_3 (x3_0 + 1) (x4_1 ++ [[D.i ((-1) - a0), D.i (x2_1 + x3_0), D.i (1 - (D.int (gt (D.rows (gt a1 x2_2.toNat 1)) x3_0.toNat 0))), D.i 1]]) < m3 x0_0 x0_1 x1_0 x1_1 x1_2 x1_3 x2_0 x2_1 x2_2 x2_3 x3_0 x3_1
  g61 : ∀ x0_0 x0_1, I0 x0_0 x0_1 → ∀ x1_0 x1_1 x1_2 x1_3, I1 x0_0 x0_1 x1_0 x1_1 x1_2 x1_3 → ∀ x2_0 x2_1 x2_2 x2_3, I2 x0_0 x0_1 x1_0 x1_1 x1_2 x1_3 x2_0 x2_1 x2_2 x2_3 → ∀ x3_0 x3_1, I3 x0_0 x0_1 x1_0 x1_1 x1_2 x1_3 x2_0 x2_1 x2_2 x2_3 x3_0 x3_1 → ∀ x4_0 x4_1, I4 x0_0 x0_1 x1_0 x1_1 x1_2 x1_3 x2_0 x2_1 x2_2 x2_3 x3_0 x3_1 x4_0 x4_1 → ((D.int (fn 68 [[D.i a0], [D.l a1]] 0 0)) = 0) → (¬ x0_1 < (a1.length : Int)) → (¬ x1_0 < ((x0_0 + (a1.length : Int)) - 1)) → (x2_2 < (a1.length : Int)) → (x3_0 < ((((D.rows (gt a1 x2_2.toNat 0))).length : Int))) → (¬ x4_0 < ((((D.rows (gt (D.rows (gt a1 x2_2.toNat 0)) x3_0.toNat 0))).length : Int))) → (¬ x2_2 = 0) → -9223372036854775808 ≤ (x2_1 + x3_0) ∧ (x2_1 + x3_0) ≤ 9223372036854775807
  g62 : ∀ x0_0 x0_1, I0 x0_0 x0_1 → ∀ x1_0 x1_1 x1_2 x1_3, I1 x0_0 x0_1 x1_0 x1_1 x1_2 x1_3 → ∀ x2_0 x2_1 x2_2 x2_3, I2 x0_0 x0_1 x1_0 x1_1 x1_2 x1_3 x2_0 x2_1 x2_2 x2_3 → ∀ x3_0 x3_1, I3 x0_0 x0_1 x1_0 x1_1 x1_2 x1_3 x2_0 x2_1 x2_2 x2_3 x3_0 x3_1 → ∀ x4_0 x4_1, I4 x0_0 x0_1 x1_0 x1_1 x1_2 x1_3 x2_0 x2_1 x2_2 x2_3 x3_0 x3_1 x4_0 x4_1 → ((D.int (fn 68 [[D.i a0], [D.l a1]] 0 0)) = 0) → (¬ x0_1 < (a1.length : Int)) → (¬ x1_0 < ((x0_0 + (a1.length : Int)) - 1)) → (x2_2 < (a1.length : Int)) → (x3_0 < ((((D.rows (gt a1 x2_2.toNat 0))).length : Int))) → (¬ x4_0 < ((((D.rows (gt (D.rows (gt a1 x2_2.toNat 0)) x3_0.toNat 0))).length : Int))) → (¬ x2_2 = 0) → 0 ≤ x2_2
  g63 : ∀ x0_0 x0_1, I0 x0_0 x0_1 → ∀ x1_0 x1_1 x1_2 x1_3, I1 x0_0 x0_1 x1_0 x1_1 x1_2 x1_3 → ∀ x2_0 x2_1 x2_2 x2_3, I2 x0_0 x0_1 x1_0 x1_1 x1_2 x1_3 x2_0 x2_1 x2_2 x2_3 → ∀ x3_0 x3_1, I3 x0_0 x0_1 x1_0 x1_1 x1_2 x1_3 x2_0 x2_1 x2_2 x2_3 x3_0 x3_1 → ∀ x4_0 x4_1, I4 x0_0 x0_1 x1_0 x1_1 x1_2 x1_3 x2_0 x2_1 x2_2 x2_3 x3_0 x3_1 x4_0 x4_1 → ((D.int (fn 68 [[D.i a0], [D.l a1]] 0 0)) = 0) → (¬ x0_1 < (a1.length : Int)) → (¬ x1_0 < ((x0_0 + (a1.length : Int)) - 1)) → (x2_2 < (a1.length : Int)) → (x3_0 < ((((D.rows (gt a1 x2_2.toNat 0))).length : Int))) → (¬ x4_0 < ((((D.rows (gt (D.rows (gt a1 x2_2.toNat 0)) x3_0.toNat 0))).length : Int))) → (¬ x2_2 = 0) → x2_2 < (a1.length : Int)
  g64 : ∀ x0_0 x0_1, I0 x0_0 x0_1 → ∀ x1_0 x1_1 x1_2 x1_3, I1 x0_0 x0_1 x1_0 x1_1 x1_2 x1_3 → ∀ x2_0 x2_1 x2_2 x2_3, I2 x0_0 x0_1 x1_0 x1_1 x1_2 x1_3 x2_0 x2_1 x2_2 x2_3 → ∀ x3_0 x3_1, I3 x0_0 x0_1 x1_0 x1_1 x1_2 x1_3 x2_0 x2_1 x2_2 x2_3 x3_0 x3_1 → ∀ x4_0 x4_1, I4 x0_0 x0_1 x1_0 x1_1 x1_2 x1_3 x2_0 x2_1 x2_2 x2_3 x3_0 x3_1 x4_0 x4_1 → ((D.int (fn 68 [[D.i a0], [D.l a1]] 0 0)) = 0) → (¬ x0_1 < (a1.length : Int)) → (¬ x1_0 < ((x0_0 + (a1.length : Int)) - 1)) → (x2_2 < (a1.length : Int)) → (x3_0 < ((((D.rows (gt a1 x2_2.toNat 0))).length : Int))) → (¬ x4_0 < ((((D.rows (gt (D.rows (gt a1 x2_2.toNat 0)) x3_0.toNat 0))).length : Int))) → (¬ x2_2 = 0) → 0 ≤ x3_0
  g65 : ∀ x0_0 x0_1, I0 x0_0 x0_1 → ∀ x1_0 x1_1 x1_2 x1_3, I1 x0_0 x0_1 x1_0 x1_1 x1_2 x1_3 → ∀ x2_0 x2_1 x2_2 x2_3, I2 x0_0 x0_1 x1_0 x1_1 x1_2 x1_3 x2_0 x2_1 x2_2 x2_3 → ∀ x3_0 x3_1, I3 x0_0 x0_1 x1_0 x1_1 x1_2 x1_3 x2_0 x2_1 x2_2 x2_3 x3_0 x3_1 → ∀ x4_0 x4_1, I4 x0_0 x0_1 x1_0 x1_1 x1_2 x1_3 x2_0 x2_1 x2_2 x2_3 x3_0 x3_1 x4_0 x4_1 → ((D.int (fn 68 [[D.i a0], [D.l a1]] 0 0)) = 0) → (¬ x0_1 < (a1.length : Int)) → (¬ x1_0 < ((x0_0 + (a1.length : Int)) - 1)) → (x2_2 < (a1.length : Int)) → (x3_0 < ((((D.rows (gt a1 x2_2.toNat 0))).length : Int))) → (¬ x4_0 < ((((D.rows (gt (D.rows (gt a1 x2_2.toNat 0)) x3_0.toNat 0))).length : Int))) → (¬ x2_2 = 0) → x3_0 < ((((D.rows (gt a1 x2_2.toNat 1))).length : Int))
  g66 : ∀ x0_0 x0_1, I0 x0_0 x0_1 → ∀ x1_0 x1_1 x1_2 x1_3, I1 x0_0 x0_1 x1_0 x1_1 x1_2 x1_3 → ∀ x2_0 x2_1 x2_2 x2_3, I2 x0_0 x0_1 x1_0 x1_1 x1_2 x1_3 x2_0 x2_1 x2_2 x2_3 → ∀ x3_0 x3_1, I3 x0_0 x0_1 x1_0 x1_1 x1_2 x1_3 x2_0 x2_1 x2_2 x2_3 x3_0 x3_1 → ∀ x4_0 x4_1, I4 x0_0 x0_1 x1_0 x1_1 x1_2 x1_3 x2_0 x2_1 x2_2 x2_3 x3_0 x3_1 x4_0 x4_1 → ((D.int (fn 68 [[D.i a0], [D.l a1]] 0 0)) = 0) → (¬ x0_1 < (a1.length : Int)) → (¬ x1_0 < ((x0_0 + (a1.length : Int)) - 1)) → (x2_2 < (a1.length : Int)) → (x3_0 < ((((D.rows (gt a1 x2_2.toNat 0))).length : Int))) → (¬ x4_0 < ((((D.rows (gt (D.rows (gt a1 x2_2.toNat 0)) x3_0.toNat 0))).length : Int))) → (¬ x2_2 = 0) → -9223372036854775808 ≤ (1 - (D.int (gt (D.rows (gt a1 x2_2.toNat 1)) x3_0.toNat 0))) ∧ (1 - (D.int (gt (D.rows (gt a1 x2_2.toNat 1)) x3_0.toNat 0))) ≤ 9223372036854775807
  g67 : ∀ x0_0 x0_1, I0 x0_0 x0_1 → ∀ x1_0 x1_1 x1_2 x1_3, I1 x0_0 x0_1 x1_0 x1_1 x1_2 x1_3 → ∀ x2_0 x2_1 x2_2 x2_3, I2 x0_0 x0_1 x1_0 x1_1 x1_2 x1_3 x2_0 x2_1 x2_2 x2_3 → ∀ x3_0 x3_1, I3 x0_0 x0_1 x1_0 x1_1 x1_2 x1_3 x2_0 x2_1 x2_2 x2_3 x3_0 x3_1 → ∀ x4_0 x4_1, I4 x0_0 x0_1 x1_0 x1_1 x1_2 x1_3 x2_0 x2_1 x2_2 x2_3 x3_0 x3_1 x4_0 x4_1 → ((D.int (fn 68 [[D.i a0], [D.l a1]] 0 0)) = 0) → (¬ x0_1 < (a1.length : Int)) → (¬ x1_0 < ((x0_0 + (a1.length : Int)) - 1)) → (x2_2 < (a1.length : Int)) → (x3_0 < ((((D.rows (gt a1 x2_2.toNat 0))).length : Int))) → (¬ x4_0 < ((((D.rows (gt (D.rows (gt a1 x2_2.toNat 0)) x3_0.toNat 0))).length : Int))) → (¬ x2_2 = 0) → (x4_1.length + (List.length ([[D.i ((x0_0 + x2_2) - 1), D.i (x2_1 + x3_0), D.i (1 - (D.int (gt (D.rows (gt a1 x2_2.toNat 1)) x3_0.toNat 0))), D.i 1]] : Rows))) * 32 ≤ 4294967296 ∧ (x4_1.length + (List.length ([[D.i ((x0_0 + x2_2) - 1), D.i (x2_1 + x3_0), D.i (1 - (D.int (gt (D.rows (gt a1 x2_2.toNat 1)) x3_0.toNat 0))), D.i 1]] : Rows))) ≤ 4294967296
  g68 : ∀ x0_0 x0_1, I0 x0_0 x0_1 → ∀ x1_0 x1_1 x1_2 x1_3, I1 x0_0 x0_1 x1_0 x1_1 x1_2 x1_3 → ∀ x2_0 x2_1 x2_2 x2_3, I2 x0_0 x0_1 x1_0 x1_1 x1_2 x1_3 x2_0 x2_1 x2_2 x2_3 → ∀ x3_0 x3_1, I3 x0_0 x0_1 x1_0 x1_1 x1_2 x1_3 x2_0 x2_1 x2_2 x2_3 x3_0 x3_1 → ∀ x4_0 x4_1, I4 x0_0 x0_1 x1_0 x1_1 x1_2 x1_3 x2_0 x2_1 x2_2 x2_3 x3_0 x3_1 x4_0 x4_1 → ((D.int (fn 68 [[D.i a0], [D.l a1]] 0 0)) = 0) → (¬ x0_1 < (a1.length : Int)) → (¬ x1_0 < ((x0_0 + (a1.length : Int)) - 1)) → (x2_2 < (a1.length : Int)) → (x3_0 < ((((D.rows (gt a1 x2_2.toNat 0))).length : Int))) → (¬ x4_0 < ((((D.rows (gt (D.rows (gt a1 x2_2.toNat 0)) x3_0.toNat 0))).length : Int))) → (¬ x2_2 = 0) → -9223372036854775808 ≤ (x3_0 + 1) ∧ (x3_0 + 1) ≤ 9223372036854775807
  n69 : ∀ x0_0 x0_1, I0 x0_0 x0_1 → ∀ x1_0 x1_1 x1_2 x1_3, I1 x0_0 x0_1 x1_0 x1_1 x1_2 x1_3 → ∀ x2_0 x2_1 x2_2 x2_3, I2 x0_0 x0_1 x1_0 x1_1 x1_2 x1_3 x2_0 x2_1 x2_2 x2_3 → ∀ x3_0 x3_1, I3 x0_0 x0_1 x1_0 x1_1 x1_2 x1_3 x2_0 x2_1 x2_2 x2_3 x3_0 x3_1 → ∀ x4_0 x4_1, I4 x0_0 x0_1 x1_0 x1_1 x1_2 x1_3 x2_0 x2_1 x2_2 x2_3 x3_0 x3_1 x4_0 x4_1 → ((D.int (fn 68 [[D.i a0], [D.l a1]] 0 0)) = 0) → (¬ x0_1 < (a1.length : Int)) → (¬ x1_0 < ((x0_0 + (a1.length : Int)) - 1)) → (x2_2 < (a1.length : Int)) → (x3_0 < ((((D.rows (gt a1 x2_2.toNat 0))).length : Int))) → (¬ x4_0 < ((((D.rows (gt (D.rows (gt a1 x2_2.toNat 0)) x3_0.toNat 0))).length : Int))) → (¬ x2_2 = 0) → I3 x0_0 x0_1 x1_0 x1_1 x1_2 x1_3 x2_0 x2_1 x2_2 x2_3 (x3_0 + 1) (x4_1 ++ [[D.i ((x0_0 + x2_2) - 1), D.i (x2_1 + x3_0), D.i (1 - (D.int (gt (D.rows (gt a1 x2_2.toNat 1)) x3_0.toNat 0))), D.i 1]]) ∧ m3 x0_0 x0_1 x1_0 x1_1 x1_2 x1_3 x2_0 x2_1 x2_2 x2_3 (x3_0 + 1) (x4_1 ++ [[D.i ((x0_0 + x2_2) - 1), D.i (x2_1 + x3_0), D.i (1 - (D.int (gt (D.rows (gt a1 x2_2.toNat 1)) x3_0.toNat 0))), D.i 1]]) < m3 x0_0 x0_1 x1_0 x1_1 x1_2 x1_3 x2_0 x2_1 x2_2 x2_3 x3_0 x3_1
  g70 : ∀ x0_0 x0_1, I0 x0_0 x0_1 → ∀ x1_0 x1_1 x1_2 x1_3, I1 x0_0 x0_1 x1_0 x1_1 x1_2 x1_3 → ∀ x2_0 x2_1 x2_2 x2_3, I2 x0_0 x0_1 x1_0 x1_1 x1_2 x1_3 x2_0 x2_1 x2_2 x2_3 → ∀ x3_0 x3_1, I3 x0_0 x0_1 x1_0 x1_1 x1_2 x1_3 x2_0 x2_1 x2_2 x2_3 x3_0 x3_1 → ((D.int (fn 68 [[D.i a0], [D.l a1]] 0 0)) = 0) → (¬ x0_1 < (a1.length : Int)) → (¬ x1_0 < ((x0_0 + (a1.length : Int)) - 1)) → (x2_2 < (a1.length : Int)) → (¬ x3_0 < ((((D.rows (gt a1 x2_2.toNat 0))).length : Int))) → 0 ≤ x2_2
  g71 : ∀ x0_0 x0_1, I0 x0_0 x0_1 → ∀ x1_0 x1_1 x1_2 x1_3, I1 x0_0 x0_1 x1_0 x1_1 x1_2 x1_3 → ∀ x2_0 x2_1 x2_2 x2_3, I2 x0_0 x0_1 x1_0 x1_1 x1_2 x1_3 x2_0 x2_1 x2_2 x2_3 → ∀ x3_0 x3_1, I3 x0_0 x0_1 x1_0 x1_1 x1_2 x1_3 x2_0 x2_1 x2_2 x2_3 x3_0 x3_1 → ((D.int (fn 68 [[D.i a0], [D.l a1]] 0 0)) = 0) → (¬ x0_1 < (a1.length : Int)) → (¬ x1_0 < ((x0_0 + (a1.length : Int)) - 1)) → (x2_2 < (a1.length : Int)) → (¬ x3_0 < ((((D.rows (gt a1 x2_2.toNat 0))).length : Int))) → x2_2 < (a1.length : Int)
  g72 : ∀ x0_0 x0_1, I0 x0_0 x0_1 → ∀ x1_0 x1_1 x1_2 x1_3, I1 x0_0 x0_1 x1_0 x1_1 x1_2 x1_3 → ∀ x2_0 x2_1 x2_2 x2_3, I2 x0_0 x0_1 x1_0 x1_1 x1_2 x1_3 x2_0 x2_1 x2_2 x2_3 → ∀ x3_0 x3_1, I3 x0_0 x0_1 x1_0 x1_1 x1_2 x1_3 x2_0 x2_1 x2_2 x2_3 x3_0 x3_1 → ((D.int (fn 68 [[D.i a0], [D.l a1]] 0 0)) = 0) → (¬ x0_1 < (a1.length : Int)) → (¬ x1_0 < ((x0_0 + (a1.length : Int)) - 1)) → (x2_2 < (a1.length : Int)) → (¬ x3_0 < ((((D.rows (gt a1 x2_2.toNat 0))).length : Int))) → -9223372036854775808 ≤ (x2_1 + ((((D.rows (gt a1 x2_2.toNat 0))).length : Int))) ∧ (x2_1 + ((((D.rows (gt a1 x2_2.toNat 0))).length : Int))) ≤ 9223372036854775807
  g73 : ∀ x0_0 x0_1, I0 x0_0 x0_1 → ∀ x1_0 x1_1 x1_2 x1_3, I1 x0_0 x0_1 x1_0 x1_1 x1_2 x1_3 → ∀ x2_0 x2_1 x2_2 x2_3, I2 x0_0 x0_1 x1_0 x1_1 x1_2 x1_3 x2_0 x2_1 x2_2 x2_3 → ∀ x3_0 x3_1, I3 x0_0 x0_1 x1_0 x1_1 x1_2 x1_3 x2_0 x2_1 x2_2 x2_3 x3_0 x3_1 → ((D.int (fn 68 [[D.i a0], [D.l a1]] 0 0)) = 0) → (¬ x0_1 < (a1.length : Int)) → (¬ x1_0 < ((x0_0 + (a1.length : Int)) - 1)) → (x2_2 < (a1.length : Int)) → (¬ x3_0 < ((((D.rows (gt a1 x2_2.toNat 0))).length : Int))) → -9223372036854775808 ≤ (x2_2 + 1) ∧ (x2_2 + 1) ≤ 9223372036854775807
  n74 : ∀ x0_0 x0_1, I0 x0_0 x0_1 → ∀ x1_0 x1_1 x1_2 x1_3, I1 x0_0 x0_1 x1_0 x1_1 x1_2 x1_3 → ∀ x2_0 x2_1 x2_2 x2_3, I2 x0_0 x0_1 x1_0 x1_1 x1_2 x1_3 x2_0 x2_1 x2_2 x2_3 → ∀ x3_0 x3_1, I3 x0_0 x0_1 x1_0 x1_1 x1_2 x1_3 x2_0 x2_1 x2_2 x2_3 x3_0 x3_1 → ((D.int (fn 68 [[D.i a0], [D.l a1]] 0 0)) = 0) → (¬ x0_1 < (a1.length : Int)) → (¬ x1_0 < ((x0_0 + (a1.length : Int)) - 1)) → (x2_2 < (a1.length : Int)) → (¬ x3_0 < ((((D.rows (gt a1 x2_2.toNat 0))).length : Int))) → I2 x0_0 x0_1 x1_0 x1_1 x1_2 x1_3 x2_1 (x2_1 + ((((D.rows (gt a1 x2_2.toNat 0))).length : Int))) (x2_2 + 1) x3_1 ∧ m2 x0_0 x0_1 x1_0 x1_1 x1_2 x1_3 x2_1 (x2_1 + ((((D.rows (gt a1 x2_2.toNat 0))).length : Int))) (x2_2 + 1) x3_1 < m2 x0_0 x0_1 x1_0 x1_1 x1_2 x1_3 x2_0 x2_1 x2_2 x2_3
  i5 : ∀ x0_0 x0_1, I0 x0_0 x0_1 → ∀ x1_0 x1_1 x1_2 x1_3, I1 x0_0 x0_1 x1_0 x1_1 x1_2 x1_3 → ∀ x2_0 x2_1 x2_2 x2_3, I2 x0_0 x0_1 x1_0 x1_1 x1_2 x1_3 x2_0 x2_1 x2_2 x2_3 → ((D.int (fn 68 [[D.i a0], [D.l a1]] 0 0)) = 0) → (¬ x0_1 < (a1.length : Int)) → (¬ x1_0 < ((x0_0 + (a1.length : Int)) - 1)) → (¬ x2_2 < (a1.length : Int)) → I5 x0_0 x0_1 x1_0 x1_1 x1_2 x1_3 x2_0 x2_1 x2_2 x2_3 0 x2_3
  g76 : ∀ x0_0 x0_1, I0 x0_0 x0_1 → ∀ x1_0 x1_1 x1_2 x1_3, I1 x0_0 x0_1 x1_0 x1_1 x1_2 x1_3 → ∀ x2_0 x2_1 x2_2 x2_3, I2 x0_0 x0_1 x1_0 x1_1 x1_2 x1_3 x2_0 x2_1 x2_2 x2_3 → ∀ x5_0 x5_1, I5 x0_0 x0_1 x1_0 x1_1 x1_2 x1_3 x2_0 x2_1 x2_2 x2_3 x5_0 x5_1 → ((D.int (fn 68 [[D.i a0], [D.l a1]] 0 0)) = 0) → (¬ x0_1 < (a1.length : Int)) → (¬ x1_0 < ((x0_0 + (a1.length : Int)) - 1)) → (¬ x2_2 < (a1.length : Int)) → -9223372036854775808 ≤ ((a1.length : Int) - 1) ∧ ((a1.length : Int) - 1) ≤ 9223372036854775807
  g77 : ∀ x0_0 x0_1, I0 x0_0 x0_1 → ∀ x1_0 x1_1 x1_2 x1_3, I1 x0_0 x0_1 x1_0 x1_1 x1_2 x1_3 → ∀ x2_0 x2_1 x2_2 x2_3, I2 x0_0 x0_1 x1_0 x1_1 x1_2 x1_3 x2_0 x2_1 x2_2 x2_3 → ∀ x5_0 x5_1, I5 x0_0 x0_1 x1_0 x1_1 x1_2 x1_3 x2_0 x2_1 x2_2 x2_3 x5_0 x5_1 → ((D.int (fn 68 [[D.i a0], [D.l a1]] 0 0)) = 0) → (¬ x0_1 < (a1.length : Int)) → (¬ x1_0 < ((x0_0 + (a1.length : Int)) - 1)) → (¬ x2_2 < (a1.length : Int)) → (x5_0 < ((a1.length : Int) - 1)) → -9223372036854775808 ≤ (x0_0 + x5_0) ∧ (x0_0 + x5_0) ≤ 9223372036854775807
  g78 : ∀ x0_0 x0_1, I0 x0_0 x0_1 → ∀ x1_0 x1_1 x1_2 x1_3, I1 x0_0 x0_1 x1_0 x1_1 x1_2 x1_3 → ∀ x2_0 x2_1 x2_2 x2_3, I2 x0_0 x0_1 x1_0 x1_1 x1_2 x1_3 x2_0 x2_1 x2_2 x2_3 → ∀ x5_0 x5_1, I5 x0_0 x0_1 x1_0 x1_1 x1_2 x1_3 x2_0 x2_1 x2_2 x2_3 x5_0 x5_1 → ((D.int (fn 68 [[D.i a0], [D.l a1]] 0 0)) = 0) → (¬ x0_1 < (a1.length : Int)) → (¬ x1_0 < ((x0_0 + (a1.length : Int)) - 1)) → (¬ x2_2 < (a1.length : Int)) → (x5_0 < ((a1.length : Int) - 1)) → -9223372036854775808 ≤ ((x0_0 + x5_0) - 1) ∧ ((x0_0 + x5_0) - 1) ≤ 9223372036854775807
  g79 : ∀ x0_0 x0_1, I0 x0_0 x0_1 → ∀ x1_0 x1_1 x1_2 x1_3, I1 x0_0 x0_1 x1_0 x1_1 x1_2 x1_3 → ∀ x2_0 x2_1 x2_2 x2_3, I2 x0_0 x0_1 x1_0 x1_1 x1_2 x1_3 x2_0 x2_1 x2_2 x2_3 → ∀ x5_0 x5_1, I5 x0_0 x0_1 x1_0 x1_1 x1_2 x1_3 x2_0 x2_1 x2_2 x2_3 x5_0 x5_1 → ((D.int (fn 68 [[D.i a0], [D.l a1]] 0 0)) = 0) → (¬ x0_1 < (a1.length : Int)) → (¬ x1_0 < ((x0_0 + (a1.length : Int)) - 1)) → (¬ x2_2 < (a1.length : Int)) → (x5_0 < ((a1.length : Int) - 1)) → (x5_0 = 0) → -9223372036854775808 ≤ ((-1) - a0) ∧ ((-1) - a0) ≤ 9223372036854775807
  g80 : ∀ x0_0 x0_1, I0 x0_0 x0_1 → ∀ x1_0 x1_1 x1_2 x1_3, I1 x0_0 x0_1 x1_0 x1_1 x1_2 x1_3 → ∀ x2_0 x2_1 x2_2 x2_3, I2 x0_0 x0_1 x1_0 x1_1 x1_2 x1_3 x2_0 x2_1 x2_2 x2_3 → ∀ x5_0 x5_1, I5 x0_0 x0_1 x1_0 x1_1 x1_2 x1_3 x2_0 x2_1 x2_2 x2_3 x5_0 x5_1 → ((D.int (fn 68 [[D.i a0], [D.l a1]] 0 0)) = 0) → (¬ x0_1 < (a1.length : Int)) → (¬ x1_0 < ((x0_0 + (a1.length : Int)) - 1)) → (¬ x2_2 < (a1.length : Int)) → (x5_0 < ((a1.length : Int) - 1)) → (x5_0 = 0) → -9223372036854775808 ≤ (x0_0 + x5_0) ∧ (x0_0 + x5_0) ≤ 9223372036854775807
  g81 : ∀ x0_0 x0_1, I0 x0_0 x0_1 → ∀ x1_0 x1_1 x1_2 x1_3, I1 x0_0 x0_1 x1_0 x1_1 x1_2 x1_3 → ∀ x2_0 x2_1 x2_2 x2_3, I2 x0_0 x0_1 x1_0 x1_1 x1_2 x1_3 x2_0 x2_1 x2_2 x2_3 → ∀ x5_0 x5_1, I5 x0_0 x0_1 x1_0 x1_1 x1_2 x1_3 x2_0 x2_1 x2_2 x2_3 x5_0 x5_1 → ((D.int (fn 68 [[D.i a0], [D.l a1]] 0 0)) = 0) → (¬ x0_1 < (a1.length : Int)) → (¬ x1_0 < ((x0_0 + (a1.length : Int)) - 1)) → (¬ x2_2 < (a1.length : Int)) → (x5_0 < ((a1.length : Int) - 1)) → (x5_0 = 0) → (x5_1.length + (List.length ([[D.i ((-1) - a0), D.i (x0_0 + x5_0), D.i 1, D.i 1]] : Rows))) * 32 ≤ 4294967296 ∧ (x5_1.length + (List.length ([[D.i ((-1) - a0), D.i (x0_0 + x5_0), D.i 1, D.i 1]] : Rows))) ≤ 4294967296
  g82 : ∀ x0_0 x0_1, I0 x0_0 x0_1 → ∀ x1_0 x1_1 x1_2 x1_3, I1 x0_0 x0_1 x1_0 x1_1 x1_2 x1_3 → ∀ x2_0 x2_1 x2_2 x2_3, I2 x0_0 x0_1 x1_0 x1_1 x1_2 x1_3 x2_0 x2_1 x2_2 x2_3 → ∀ x5_0 x5_1, I5 x0_0 x0_1 x1_0 x1_1 x1_2 x1_3 x2_0 x2_1 x2_2 x2_3 x5_0 x5_1 → ((D.int (fn 68 [[D.i a0], [D.l a1]] 0 0)) = 0) → (¬ x0_1 < (a1.length : Int)) → (¬ x1_0 < ((x0_0 + (a1.length : Int)) - 1)) → (¬ x2_2 < (a1.length : Int)) → (x5_0 < ((a1.length : Int) - 1)) → (x5_0 = 0) → -9223372036854775808 ≤ (x5_0 + 1) ∧ (x5_0 + 1) ≤ 9223372036854775807
  n83 : ∀ x0_0 x0_1, I0 x0_0 x0_1 → ∀ x1_0 x1_1 x1_2 x1_3, I1 x0_0 x0_1 x1_0 x1_1 x1_2 x1_3 → ∀ x2_0 x2_1 x2_2 x2_3, I2 x0_0 x0_1 x1_0 x1_1 x1_2 x1_3 x2_0 x2_1 x2_2 x2_3 → ∀ x5_0 x5_1, I5 x0_0 x0_1 x1_0 x1_1 x1_2 x1_3 x2_0 x2_1 x2_2 x2_3 x5_0 x5_1 → ((D.int (fn 68 [[D.i a0], [D.l a1]] 0 0)) = 0) → (¬ x0_1 < (a1.length : Int)) → (¬ x1_0 < ((x0_0 + (a1.length : Int)) - 1)) → (¬ x2_2 < (a1.length : Int)) → (x5_0 < ((a1.length : Int) - 1)) → (x5_0 = 0) → I5 x0_0 x0_1 x1_0 x1_1 x1_2 x1_3 x2_0 x2_1 x2_2 x2_3 (x5_0 + 1) (x5_1 ++ [[D.i ((-1) - a0), D.i (x0_0 + x5_0), D.i 1, D.i 1]]) ∧ m5 x0_0 x0_1 x1_0 x1_1 x1_2 x1_3 x2_0 x2_1 x2_2 x2_3 (x5_0 + 1) (x5_1 ++ [[D.i ((-1) - a0), D.i (x0_0 + x5_0), D.i 1, D.i 1]]) < m5 x0_0 x0_1 x1_0 x1_1 x1_2 x1_3 x2_0 x2_1 x2_2 x2_3 x5_0 x5_1
  g84 : ∀ x0_0 x0_1, I0 x0_0 x0_1 → ∀ x1_0 x1_1 x1_2 x1_3, I1 x0_0 x0_1 x1_0 x1_1 x1_2 x1_3 → ∀ x2_0 x2_1 x2_2 x2_3, I2 x0_0 x0_1 x1_0 x1_1 x1_2 x1_3 x2_0 x2_1 x2_2 x2_3 → ∀ x5_0 x5_1, I5 x0_0 x0_1 x1_0 x1_1 x1_2 x1_3 x2_0 x2_1 x2_2 x2_3 x5_0 x5_1 → ((D.int (fn 68 [[D.i a0], [D.l a1]] 0 0)) = 0) → (¬ x0_1 < (a1.length : Int)) → (¬ x1_0 < ((x0_0 + (a1.length : Int)) - 1)) → (¬ x2_2 < (a1.length : Int)) → (x5_0 < ((a1.length : Int) - 1)) → (¬ x5_0 = 0) → -9223372036854775808 ≤ (x0_0 + x5_0) ∧ (x0_0 + x5_0) ≤ 9223372036854775807
  g85 : ∀ x0_0 x0_1, I0 x0_0 x0_1 → ∀ x1_0 x1_1 x1_2 x1_3, I1 x0_0 x0_1 x1_0 x1_1 x1_2 x1_3 → ∀ x2_0 x2_1 x2_2 x2_3, I2 x0_0 x0_1 x1_0 x1_1 x1_2 x1_3 x2_0 x2_1 x2_2 x2_3 → ∀ x5_0 x5_1, I5 x0_0 x0_1 x1_0 x1_1 x1_2 x1_3 x2_0 x2_1 x2_2 x2_3 x5_0 x5_1 → ((D.int (fn 68 [[D.i a0], [D.l a1]] 0 0)) = 0) → (¬ x0_1 < (a1.length : Int)) → (¬ x1_0 < ((x0_0 + (a1.length : Int)) - 1)) → (¬ x2_2 < (a1.length : Int)) → (x5_0 < ((a1.length : Int) - 1)) → (¬ x5_0 = 0) → (x5_1.length + (List.length ([[D.i ((x0_0 + x5_0) - 1), D.i (x0_0 + x5_0), D.i 1, D.i 1]] : Rows))) * 32 ≤ 4294967296 ∧ (x5_1.length + (List.length ([[D.i ((x0_0 + x5_0) - 1), D.i (x0_0 + x5_0), D.i 1, D.i 1]] : Rows))) ≤ 4294967296
  g86 : ∀ x0_0 x0_1, I0 x0_0 x0_1 → ∀ x1_0 x1_1 x1_2 x1_3, I1 x0_0 x0_1 x1_0 x1_1 x1_2 x1_3 → ∀ x2_0 x2_1 x2_2 x2_3, I2 x0_0 x0_1 x1_0 x1_1 x1_2 x1_3 x2_0 x2_1 x2_2 x2_3 → ∀ x5_0 x5_1, I5 x0_0 x0_1 x1_0 x1_1 x1_2 x1_3 x2_0 x2_1 x2_2 x2_3 x5_0 x5_1 → ((D.int (fn 68 [[D.i a0], [D.l a1]] 0 0)) = 0) → (¬ x0_1 < (a1.length : Int)) → (¬ x1_0 < ((x0_0 + (a1.length : Int)) - 1)) → (¬ x2_2 < (a1.length : Int)) → (x5_0 < ((a1.length : Int) - 1)) → (¬ x5_0 = 0) → -9223372036854775808 ≤ (x5_0 + 1) ∧ (x5_0 + 1) ≤ 9223372036854775807
  n87 : ∀ x0_0 x0_1, I0 x0_0 x0_1 → ∀ x1_0 x1_1 x1_2 x1_3, I1 x0_0 x0_1 x1_0 x1_1 x1_2 x1_3 → ∀ x2_0 x2_1 x2_2 x2_3, I2 x0_0 x0_1 x1_0 x1_1 x1_2 x1_3 x2_0 x2_1 x2_2 x2_3 → ∀ x5_0 x5_1, I5 x0_0 x0_1 x1_0 x1_1 x1_2 x1_3 x2_0 x2_1 x2_2 x2_3 x5_0 x5_1 → ((D.int (fn 68 [[D.i a0], [D.l a1]] 0 0)) = 0) → (¬ x0_1 < (a1.length : Int)) → (¬ x1_0 < ((x0_0 + (a1.length : Int)) - 1)) → (¬ x2_2 < (a1.length : Int)) → (x5_0 < ((a1.length : Int) - 1)) → (¬ x5_0 = 0) → I5 x0_0 x0_1 x1_0 x1_1 x1_2 x1_3 x2_0 x2_1 x2_2 x2_3 (x5_0 + 1) (x5_1 ++ [[D.i ((x0_0 + x5_0) - 1), D.i (x0_0 + x5_0), D.i 1, D.i 1]]) ∧ m5 x0_0 x0_1 x1_0 x1_1 x1_2 x1_3 x2_0 x2_1 x2_2 x2_3 (x5_0 + 1) (x5_1 ++ [[D.i ((x0_0 + x5_0) - 1), D.i (x0_0 + x5_0), D.i 1, D.i 1]]) < m5 x0_0 x0_1 x1_0 x1_1 x1_2 x1_3 x2_0 x2_1 x2_2 x2_3 x5_0 x5_1
  g88 : ∀ x0_0 x0_1, I0 x0_0 x0_1 → ∀ x1_0 x1_1 x1_2 x1_3, I1 x0_0 x0_1 x1_0 x1_1 x1_2 x1_3 → ∀ x2_0 x2_1 x2_2 x2_3, I2 x0_0 x0_1 x1_0 x1_1 x1_2 x1_3 x2_0 x2_1 x2_2 x2_3 → ∀ x5_0 x5_1, I5 x0_0 x0_1 x1_0 x1_1 x1_2 x1_3 x2_0 x2_1 x2_2 x2_3 x5_0 x5_1 → ((D.int (fn 68 [[D.i a0], [D.l a1]] 0 0)) = 0) → (¬ x0_1 < (a1.length : Int)) → (¬ x1_0 < ((x0_0 + (a1.length : Int)) - 1)) → (¬ x2_2 < (a1.length : Int)) → (¬ x5_0 < ((a1.length : Int) - 1)) → R 0 0 = D.l x1_1
  g89 : ∀ x0_0 x0_1, I0 x0_0 x0_1 → ∀ x1_0 x1_1 x1_2 x1_3, I1 x0_0 x0_1 x1_0 x1_1 x1_2 x1_3 → ∀ x2_0 x2_1 x2_2 x2_3, I2 x0_0 x0_1 x1_0 x1_1 x1_2 x1_3 x2_0 x2_1 x2_2 x2_3 → ∀ x5_0 x5_1, I5 x0_0 x0_1 x1_0 x1_1 x1_2 x1_3 x2_0 x2_1 x2_2 x2_3 x5_0 x5_1 → ((D.int (fn 68 [[D.i a0], [D.l a1]] 0 0)) = 0) → (¬ x0_1 < (a1.length : Int)) → (¬ x1_0 < ((x0_0 + (a1.length : Int)) - 1)) → (¬ x2_2 < (a1.length : Int)) → (¬ x5_0 < ((a1.length : Int) - 1)) → R 0 1 = D.i x1_2
  g90 : ∀ x0_0 x0_1, I0 x0_0 x0_1 → ∀ x1_0 x1_1 x1_2 x1_3, I1 x0_0 x0_1 x1_0 x1_1 x1_2 x1_3 → ∀ x2_0 x2_1 x2_2 x2_3, I2 x0_0 x0_1 x1_0 x1_1 x1_2 x1_3 x2_0 x2_1 x2_2 x2_3 → ∀ x5_0 x5_1, I5 x0_0 x0_1 x1_0 x1_1 x1_2 x1_3 x2_0 x2_1 x2_2 x2_3 x5_0 x5_1 → ((D.int (fn 68 [[D.i a0], [D.l a1]] 0 0)) = 0) → (¬ x0_1 < (a1.length : Int)) → (¬ x1_0 < ((x0_0 + (a1.length : Int)) - 1)) → (¬ x2_2 < (a1.length : Int)) → (¬ x5_0 < ((a1.length : Int) - 1)) → R 0 2 = D.l x5_1
  g91 : ∀ x0_0 x0_1, I0 x0_0 x0_1 → ∀ x1_0 x1_1 x1_2 x1_3, I1 x0_0 x0_1 x1_0 x1_1 x1_2 x1_3 → ∀ x2_0 x2_1 x2_2 x2_3, I2 x0_0 x0_1 x1_0 x1_1 x1_2 x1_3 x2_0 x2_1 x2_2 x2_3 → ∀ x5_0 x5_1, I5 x0_0 x0_1 x1_0 x1_1 x1_2 x1_3 x2_0 x2_1 x2_2 x2_3 x5_0 x5_1 → ((D.int (fn 68 [[D.i a0], [D.l a1]] 0 0)) = 0) → (¬ x0_1 < (a1.length : Int)) → (¬ x1_0 < ((x0_0 + (a1.length : Int)) - 1)) → (¬ x2_2 < (a1.length : Int)) → (¬ x5_0 < ((a1.length : Int) - 1)) → R 1 0 = D.i 0
end HX

namespace HX
open Go Go.Proofs CX
structure V32 (pre : Nat → List (List D) → Prop) (fn : Nat → List (List D) → Nat → Nat → D) (a0 : Int) (a1 : Rows) (R : Nat → Nat → D) (I0 : Int → Int → Prop) (m0 : Int → Int → Nat) (I1 : Int → Int → Int → Int → Int → Int → Rows → Int → Rows → Prop) (m1 : Int → Int → Int → Int → Int → Int → Rows → Int → Rows → Nat) (I2 : Int → Int → Int → Int → Int → Int → Rows → Int → Rows → Int → Int → Rows → Int → Rows → Prop) (m2 : Int → Int → Int → Int → Int → Int → Rows → Int → Rows → Int → Int → Rows → Int → Rows → Nat) (I3 : Int → Int → Int → Int → Int → Int → Rows → Int → Rows → Int → Rows → Int → Rows → Prop) (m3 : Int → Int → Int → Int → Int → Int → Rows → Int → Rows → Int → Rows → Int → Rows → Nat) : Prop where
  g0 : pre 63 [[D.i a0], [D.l a1], [D.nil], [D.nil]]
  g1 : (¬ (D.int (fn 63 [[D.i a0], [D.l a1], [D.nil], [D.nil]] 0 0)) = 0) → R 0 0 = D.l []
  g2 : (¬ (D.int (fn 63 [[D.i a0], [D.l a1], [D.nil], [D.nil]] 0 0)) = 0) → R 0 1 = D.i 0
  g3 : (¬ (D.int (fn 63 [[D.i a0], [D.l a1], [D.nil], [D.nil]] 0 0)) = 0) → R 0 2 = D.l []
  g4 : (¬ (D.int (fn 63 [[D.i a0], [D.l a1], [D.nil], [D.nil]] 0 0)) = 0) → R 1 0 = D.i (D.int (fn 63 [[D.i a0], [D.l a1], [D.nil], [D.nil]] 0 0))
  g5 : ((D.int (fn 63 [[D.i a0], [D.l a1], [D.nil], [D.nil]] 0 0)) = 0) → pre 69 [[D.l a1], [D.nil]]
  i0 : ((D.int (fn 63 [[D.i a0], [D.l a1], [D.nil], [D.nil]] 0 0)) = 0) → I0 0 0
  g7 : ∀ x0_0 x0_1, I0 x0_0 x0_1 → ((D.int (fn 63 [[D.i a0], [D.l a1], [D.nil], [D.nil]] 0 0)) = 0) → (x0_0 < (((D.rows (fn 69 [[D.l a1], [D.nil]] 0 0))).length : Int)) → 0 ≤ x0_0
  g8 : ∀ x0_0 x0_1, I0 x0_0 x0_1 → ((D.int (fn 63 [[D.i a0], [D.l a1], [D.nil], [D.nil]] 0 0)) = 0) → (x0_0 < (((D.rows (fn 69 [[D.l a1], [D.nil]] 0 0))).length : Int)) → x0_0 < (((D.rows (fn 69 [[D.l a1], [D.nil]] 0 0))).length : Int)
  g9 : ∀ x0_0 x0_1, I0 x0_0 x0_1 → ((D.int (fn 63 [[D.i a0], [D.l a1], [D.nil], [D.nil]] 0 0)) = 0) → (x0_0 < (((D.rows (fn 69 [[D.l a1], [D.nil]] 0 0))).length : Int)) → -9223372036854775808 ≤ (x0_1 + (D.int (gt (D.rows (fn 69 [[D.l a1], [D.nil]] 0 0)) x0_0.toNat 0))) ∧ (x0_1 + (D.int (gt (D.rows (fn 69 [[D.l a1], [D.nil]] 0 0)) x0_0.toNat 0))) ≤ 9223372036854775807
  g10 : ∀ x0_0 x0_1, I0 x0_0 x0_1 → ((D.int (fn 63 [[D.i a0], [D.l a1], [D.nil], [D.nil]] 0 0)) = 0) → (x0_0 < (((D.rows (fn 69 [[D.l a1], [D.nil]] 0 0))).length : Int)) → -9223372036854775808 ≤ (x0_0 + 1) ∧ (x0_0 + 1) ≤ 9223372036854775807
  n11 : ∀ x0_0 x0_1, I0 x0_0 x0_1 → ((D.int (fn 63 [[D.i a0], [D.l a1], [D.nil], [D.nil]] 0 0)) = 0) → (x0_0 < (((D.rows (fn 69 [[D.l a1], [D.nil]] 0 0))).length : Int)) → I0 (x0_0 + 1) (x0_1 + (D.int (gt (D.rows (fn 69 [[D.l a1], [D.nil]] 0 0)) x0_0.toNat 0))) ∧ m0 (x0_0 + 1) (x0_1 + (D.int (gt (D.rows (fn 69 [[D.l a1], [D.nil]] 0 0)) x0_0.toNat 0))) < m0 x0_0 x0_1
  g12 : ∀ x0_0 x0_1, I0 x0_0 x0_1 → ((D.int (fn 63 [[D.i a0], [D.l a1], [D.nil], [D.nil]] 0 0)) = 0) → (¬ x0_0 < (((D.rows (fn 69 [[D.l a1], [D.nil]] 0 0))).length : Int)) → pre 72 []
  g13 : ∀ x0_0 x0_1, I0 x0_0 x0_1 → ((D.int (fn 63 [[D.i a0], [D.l a1], [D.nil], [D.nil]] 0 0)) = 0) → (¬ x0_0 < (((D.rows (fn 69 [[D.l a1], [D.nil]] 0 0))).length : Int)) → -9223372036854775808 ≤ (x0_1 + (a1.length : Int)) ∧ (x0_1 + (a1.length : Int)) ≤ 9223372036854775807
  g14 : ∀ x0_0 x0_1, I0 x0_0 x0_1 → ((D.int (fn 63 [[D.i a0], [D.l a1], [D.nil], [D.nil]] 0 0)) = 0) → (¬ x0_0 < (((D.rows (fn 69 [[D.l a1], [D.nil]] 0 0))).length : Int)) → -9223372036854775808 ≤ ((x0_1 + (a1.length : Int)) - 1) ∧ ((x0_1 + (a1.length : Int)) - 1) ≤ 9223372036854775807
  g15 : ∀ x0_0 x0_1, I0 x0_0 x0_1 → ((D.int (fn 63 [[D.i a0], [D.l a1], [D.nil], [D.nil]] 0 0)) = 0) → (¬ x0_0 < (((D.rows (fn 69 [[D.l a1], [D.nil]] 0 0))).length : Int)) → pre 71 [[D.l [[D.i (D.int (fn 72 [] 0 0)), D.i (D.int (fn 72 [] 0 1)), D.i (D.int (fn 72 [] 0 2)), D.i (D.int (fn 72 [] 0 3)), D.i (D.int (fn 72 [] 0 4)), D.i (D.int (fn 72 [] 0 5)), D.i (D.int (fn 72 [] 0 6)), D.i (D.int (fn 72 [] 0 7))]]], [D.i ((x0_1 + (a1.length : Int)) - 1)]]
  g16 : ∀ x0_0 x0_1, I0 x0_0 x0_1 → ((D.int (fn 63 [[D.i a0], [D.l a1], [D.nil], [D.nil]] 0 0)) = 0) → (¬ x0_0 < (((D.rows (fn 69 [[D.l a1], [D.nil]] 0 0))).length : Int)) → -9223372036854775808 ≤ (a0 + 1) ∧ (a0 + 1) ≤ 9223372036854775807
  i1 : ∀ x0_0 x0_1, I0 x0_0 x0_1 → ((D.int (fn 63 [[D.i a0], [D.l a1], [D.nil], [D.nil]] 0 0)) = 0) → (¬ x0_0 < (((D.rows (fn 69 [[D.l a1], [D.nil]] 0 0))).length : Int)) → I1 x0_0 x0_1 0 (-1) (-1) 0 (D.rows (fn 71 [[D.l [[D.i (D.int (fn 72 [] 0 0)), D.i (D.int (fn 72 [] 0 1)), D.i (D.int (fn 72 [] 0 2)), D.i (D.int (fn 72 [] 0 3)), D.i (D.int (fn 72 [] 0 4)), D.i (D.int (fn 72 [] 0 5)), D.i (D.int (fn 72 [] 0 6)), D.i (D.int (fn 72 [] 0 7))]]], [D.i ((x0_1 + (a1.length : Int)) - 1)]] 0 0)) (a0 + 1) []
  g18 : ∀ x0_0 x0_1, I0 x0_0 x0_1 → ∀ x1_0 x1_1 x1_2 x1_3 x1_4 x1_5 x1_6, I1 x0_0 x0_1 x1_0 x1_1 x1_2 x1_3 x1_4 x1_5 x1_6 → ((D.int (fn 63 [[D.i a0], [D.l a1], [D.nil], [D.nil]] 0 0)) = 0) → (¬ x0_0 < (((D.rows (fn 69 [[D.l a1], [D.nil]] 0 0))).length : Int)) → (x1_3 < (((D.rows (fn 69 [[D.l a1], [D.nil]] 0 0))).length : Int)) → 0 ≤ x1_3
  g19 : ∀ x0_0 x0_1, I0 x0_0 x0_1 → ∀ x1_0 x1_1 x1_2 x1_3 x1_4 x1_5 x1_6, I1 x0_0 x0_1 x1_0 x1_1 x1_2 x1_3 x1_4 x1_5 x1_6 → ((D.int (fn 63 [[D.i a0], [D.l a1], [D.nil], [D.nil]] 0 0)) = 0) → (¬ x0_0 < (((D.rows (fn 69 [[D.l a1], [D.nil]] 0 0))).length : Int)) → (x1_3 < (((D.rows (fn 69 [[D.l a1], [D.nil]] 0 0))).length : Int)) → x1_3 < (((D.rows (fn 69 [[D.l a1], [D.nil]] 0 0))).length : Int)
  i2 : ∀ x0_0 x0_1, I0 x0_0 x0_1 → ∀ x1_0 x1_1 x1_2 x1_3 x1_4 x1_5 x1_6, I1 x0_0 x0_1 x1_0 x1_1 x1_2 x1_3 x1_4 x1_5 x1_6 → ((D.int (fn 63 [[D.i a0], [D.l a1], [D.nil], [D.nil]] 0 0)) = 0) → (¬ x0_0 < (((D.rows (fn 69 [[D.l a1], [D.nil]] 0 0))).length : Int)) → (x1_3 < (((D.rows (fn 69 [[D.l a1], [D.nil]] 0 0))).length : Int)) → I2 x0_0 x0_1 x1_0 x1_1 x1_2 x1_3 x1_4 x1_5 x1_6 x1_0 0 x1_4 x1_5 x1_6
  g21 : ∀ x0_0 x0_1, I0 x0_0 x0_1 → ∀ x1_0 x1_1 x1_2 x1_3 x1_4 x1_5 x1_6, I1 x0_0 x0_1 x1_0 x1_1 x1_2 x1_3 x1_4 x1_5 x1_6 → ∀ x2_0 x2_1 x2_2 x2_3 x2_4, I2 x0_0 x0_1 x1_0 x1_1 x1_2 x1_3 x1_4 x1_5 x1_6 x2_0 x2_1 x2_2 x2_3 x2_4 → ((D.int (fn 63 [[D.i a0], [D.l a1], [D.nil], [D.nil]] 0 0)) = 0) → (¬ x0_0 < (((D.rows (fn 69 [[D.l a1], [D.nil]] 0 0))).length : Int)) → (x1_3 < (((D.rows (fn 69 [[D.l a1], [D.nil]] 0 0))).length : Int)) → (x2_1 < (D.int (gt (D.rows (fn 69 [[D.l a1], [D.nil]] 0 0)) x1_3.toNat 0))) → 0 ≤ x1_3
  g22 : ∀ x0_0 x0_1, I0 x0_0 x0_1 → ∀ x1_0 x1_1 x1_2 x1_3 x1_4 x1_5 x1_6, I1 x0_0 x0_1 x1_0 x1_1 x1_2 x1_3 x1_4 x1_5 x1_6 → ∀ x2_0 x2_1 x2_2 x2_3 x2_4, I2 x0_0 x0_1 x1_0 x1_1 x1_2 x1_3 x1_4 x1_5 x1_6 x2_0 x2_1 x2_2 x2_3 x2_4 → ((D.int (fn 63 [[D.i a0], [D.l a1], [D.nil], [D.nil]] 0 0)) = 0) → (¬ x0_0 < (((D.rows (fn 69 [[D.l a1], [D.nil]] 0 0))).length : Int)) → (x1_3 < (((D.rows (fn 69 [[D.l a1], [D.nil]] 0 0))).length : Int)) → (x2_1 < (D.int (gt (D.rows (fn 69 [[D.l a1], [D.nil]] 0 0)) x1_3.toNat 0))) → x1_3 < (a1.length : Int)
  g23 : ∀ x0_0 x0_1, I0 x0_0 x0_1 → ∀ x1_0 x1_1 x1_2 x1_3 x1_4 x1_5 x1_6, I1 x0_0 x0_1 x1_0 x1_1 x1_2 x1_3 x1_4 x1_5 x1_6 → ∀ x2_0 x2_1 x2_2 x2_3 x2_4, I2 x0_0 x0_1 x1_0 x1_1 x1_2 x1_3 x1_4 x1_5 x1_6 x2_0 x2_1 x2_2 x2_3 x2_4 → ((D.int (fn 63 [[D.i a0], [D.l a1], [D.nil], [D.nil]] 0 0)) = 0) → (¬ x0_0 < (((D.rows (fn 69 [[D.l a1], [D.nil]] 0 0))).length : Int)) → (x1_3 < (((D.rows (fn 69 [[D.l a1], [D.nil]] 0 0))).length : Int)) → (x2_1 < (D.int (gt (D.rows (fn 69 [[D.l a1], [D.nil]] 0 0)) x1_3.toNat 0))) → 0 ≤ x2_1
  g24 : ∀ x0_0 x0_1, I0 x0_0 x0_1 → ∀ x1_0 x1_1 x1_2 x1_3 x1_4 x1_5 x1_6, I1 x0_0 x0_1 x1_0 x1_1 x1_2 x1_3 x1_4 x1_5 x1_6 → ∀ x2_0 x2_1 x2_2 x2_3 x2_4, I2 x0_0 x0_1 x1_0 x1_1 x1_2 x1_3 x1_4 x1_5 x1_6 x2_0 x2_1 x2_2 x2_3 x2_4 → ((D.int (fn 63 [[D.i a0], [D.l a1], [D.nil], [D.nil]] 0 0)) = 0) → (¬ x0_0 < (((D.rows (fn 69 [[D.l a1], [D.nil]] 0 0))).length : Int)) → (x1_3 < (((D.rows (fn 69 [[D.l a1], [D.nil]] 0 0))).length : Int)) → (x2_1 < (D.int (gt (D.rows (fn 69 [[D.l a1], [D.nil]] 0 0)) x1_3.toNat 0))) → x2_1 < ((((D.rows (gt a1 x1_3.toNat 0))).length : Int))
  g25 : ∀ x0_0 x0_1, I0 x0_0 x0_1 → ∀ x1_0 x1_1 x1_2 x1_3 x1_4 x1_5 x1_6, I1 x0_0 x0_1 x1_0 x1_1 x1_2 x1_3 x1_4 x1_5 x1_6 → ∀ x2_0 x2_1 x2_2 x2_3 x2_4, I2 x0_0 x0_1 x1_0 x1_1 x1_2 x1_3 x1_4 x1_5 x1_6 x2_0 x2_1 x2_2 x2_3 x2_4 → ((D.int (fn 63 [[D.i a0], [D.l a1], [D.nil], [D.nil]] 0 0)) = 0) → (¬ x0_0 < (((D.rows (fn 69 [[D.l a1], [D.nil]] 0 0))).length : Int)) → (x1_3 < (((D.rows (fn 69 [[D.l a1], [D.nil]] 0 0))).length : Int)) → (x2_1 < (D.int (gt (D.rows (fn 69 [[D.l a1], [D.nil]] 0 0)) x1_3.toNat 0))) → pre 74 [[D.i x1_3, D.i x2_1, D.i x2_0, D.i x1_1, D.i x1_2], [D.l (D.rows (gt (D.rows (gt a1 x1_3.toNat 0)) x2_1.toNat 0))]]
  g26 : ∀ x0_0 x0_1, I0 x0_0 x0_1 → ∀ x1_0 x1_1 x1_2 x1_3 x1_4 x1_5 x1_6, I1 x0_0 x0_1 x1_0 x1_1 x1_2 x1_3 x1_4 x1_5 x1_6 → ∀ x2_0 x2_1 x2_2 x2_3 x2_4, I2 x0_0 x0_1 x1_0 x1_1 x1_2 x1_3 x1_4 x1_5 x1_6 x2_0 x2_1 x2_2 x2_3 x2_4 → ((D.int (fn 63 [[D.i a0], [D.l a1], [D.nil], [D.nil]] 0 0)) = 0) → (¬ x0_0 < (((D.rows (fn 69 [[D.l a1], [D.nil]] 0 0))).length : Int)) → (x1_3 < (((D.rows (fn 69 [[D.l a1], [D.nil]] 0 0))).length : Int)) → (x2_1 < (D.int (gt (D.rows (fn 69 [[D.l a1], [D.nil]] 0 0)) x1_3.toNat 0))) → (x2_4.length + (List.length ((D.rows (fn 74 [[D.i x1_3, D.i x2_1, D.i x2_0, D.i x1_1, D.i x1_2], [D.l (D.rows (gt (D.rows (gt a1 x1_3.toNat 0)) x2_1.toNat 0))]] 0 0)) : Rows))) * 32 ≤ 4294967296 ∧ (x2_4.length + (List.length ((D.rows (fn 74 [[D.i x1_3, D.i x2_1, D.i x2_0, D.i x1_1, D.i x1_2], [D.l (D.rows (gt (D.rows (gt a1 x1_3.toNat 0)) x2_1.toNat 0))]] 0 0)) : Rows))) ≤ 4294967296
  g27 : ∀ x0_0 x0_1, I0 x0_0 x0_1 → ∀ x1_0 x1_1 x1_2 x1_3 x1_4 x1_5 x1_6, I1 x0_0 x0_1 x1_0 x1_1 x1_2 x1_3 x1_4 x1_5 x1_6 → ∀ x2_0 x2_1 x2_2 x2_3 x2_4, I2 x0_0 x0_1 x1_0 x1_1 x1_2 x1_3 x1_4 x1_5 x1_6 x2_0 x2_1 x2_2 x2_3 x2_4 → ((D.int (fn 63 [[D.i a0], [D.l a1], [D.nil], [D.nil]] 0 0)) = 0) → (¬ x0_0 < (((D.rows (fn 69 [[D.l a1], [D.nil]] 0 0))).length : Int)) → (x1_3 < (((D.rows (fn 69 [[D.l a1], [D.nil]] 0 0))).length : Int)) → (x2_1 < (D.int (gt (D.rows (fn 69 [[D.l a1], [D.nil]] 0 0)) x1_3.toNat 0))) → pre 70 [[D.i x1_3], [D.i a0], [D.i x0_1]]
  g29 : ∀ x0_0 x0_1, I0 x0_0 x0_1 → ∀ x1_0 x1_1 x1_2 x1_3 x1_4 x1_5 x1_6, I1 x0_0 x0_1 x1_0 x1_1 x1_2 x1_3 x1_4 x1_5 x1_6 → ∀ x2_0 x2_1 x2_2 x2_3 x2_4, I2 x0_0 x0_1 x1_0 x1_1 x1_2 x1_3 x1_4 x1_5 x1_6 x2_0 x2_1 x2_2 x2_3 x2_4 → ((D.int (fn 63 [[D.i a0], [D.l a1], [D.nil], [D.nil]] 0 0)) = 0) → (¬ x0_0 < (((D.rows (fn 69 [[D.l a1], [D.nil]] 0 0))).length : Int)) → (x1_3 < (((D.rows (fn 69 [[D.l a1], [D.nil]] 0 0))).length : Int)) → (x2_1 < (D.int (gt (D.rows (fn 69 [[D.l a1], [D.nil]] 0 0)) x1_3.toNat 0))) → x2_1 < ((((D.rows (gt a1 x1_3.toNat 1))).length : Int))
  g30 : ∀ x0_0 x0_1, I0 x0_0 x0_1 → ∀ x1_0 x1_1 x1_2 x1_3 x1_4 x1_5 x1_6, I1 x0_0 x0_1 x1_0 x1_1 x1_2 x1_3 x1_4 x1_5 x1_6 → ∀ x2_0 x2_1 x2_2 x2_3 x2_4, I2 x0_0 x0_1 x1_0 x1_1 x1_2 x1_3 x1_4 x1_5 x1_6 x2_0 x2_1 x2_2 x2_3 x2_4 → ((D.int (fn 63 [[D.i a0], [D.l a1], [D.nil], [D.nil]] 0 0)) = 0) → (¬ x0_0 < (((D.rows (fn 69 [[D.l a1], [D.nil]] 0 0))).length : Int)) → (x1_3 < (((D.rows (fn 69 [[D.l a1], [D.nil]] 0 0))).length : Int)) → (x2_1 < (D.int (gt (D.rows (fn 69 [[D.l a1], [D.nil]] 0 0)) x1_3.toNat 0))) → -9223372036854775808 ≤ (1 - (D.int (gt (D.rows (gt a1 x1_3.toNat 1)) x2_1.toNat 0))) ∧ (1 - (D.int (gt (D.rows (gt a1 x1_3.toNat 1)) x2_1.toNat 0))) ≤ 9223372036854775807
  g31 : ∀ x0_0 x0_1, I0 x0_0 x0_1 → ∀ x1_0 x1_1 x1_2 x1_3 x1_4 x1_5 x1_6, I1 x0_0 x0_1 x1_0 x1_1 x1_2 x1_3 x1_4 x1_5 x1_6 → ∀ x2_0 x2_1 x2_2 x2_3 x2_4, I2 x0_0 x0_1 x1_0 x1_1 x1_2 x1_3 x1_4 x1_5 x1_6 x2_0 x2_1 x2_2 x2_3 x2_4 → ((D.int (fn 63 [[D.i a0], [D.l a1], [D.nil], [D.nil]] 0 0)) = 0) → (¬ x0_0 < (((D.rows (fn 69 [[D.l a1], [D.nil]] 0 0))).length : Int)) → (x1_3 < (((D.rows (fn 69 [[D.l a1], [D.nil]] 0 0))).length : Int)) → (x2_1 < (D.int (gt (D.rows (fn 69 [[D.l a1], [D.nil]] 0 0)) x1_3.toNat 0))) → pre 75 [[D.i x1_3, D.i x2_1, D.i x2_0, D.i x1_1, D.i x1_2], [D.i (D.int (fn 70 [[D.i x1_3], [D.i a0], [D.i x0_1]] 0 0))], [D.i (1 - (D.int (gt (D.rows (gt a1 x1_3.toNat 1)) x2_1.toNat 0)))]]
  g32 : ∀ x0_0 x0_1, I0 x0_0 x0_1 → ∀ x1_0 x1_1 x1_2 x1_3 x1_4 x1_5 x1_6, I1 x0_0 x0_1 x1_0 x1_1 x1_2 x1_3 x1_4 x1_5 x1_6 → ∀ x2_0 x2_1 x2_2 x2_3 x2_4, I2 x0_0 x0_1 x1_0 x1_1 x1_2 x1_3 x1_4 x1_5 x1_6 x2_0 x2_1 x2_2 x2_3 x2_4 → ((D.int (fn 63 [[D.i a0], [D.l a1], [D.nil], [D.nil]] 0 0)) = 0) → (¬ x0_0 < (((D.rows (fn 69 [[D.l a1], [D.nil]] 0 0))).length : Int)) → (x1_3 < (((D.rows (fn 69 [[D.l a1], [D.nil]] 0 0))).length : Int)) → (x2_1 < (D.int (gt (D.rows (fn 69 [[D.l a1], [D.nil]] 0 0)) x1_3.toNat 0))) → ((List.length ((x2_4 ++ (D.rows (fn 74 [[D.i x1_3, D.i x2_1, D.i x2_0, D.i x1_1, D.i x1_2], [D.l (D.rows (gt (D.rows (gt a1 x1_3.toNat 0)) x2_1.toNat 0))]] 0 0))) : Rows)) + (List.length ([[D.i (D.int (fn 75 [[D.i x1_3, D.i x2_1, D.i x2_0, D.i x1_1, D.i x1_2], [D.i (D.int (fn 70 [[D.i x1_3], [D.i a0], [D.i x0_1]] 0 0))], [D.i (1 - (D.int (gt (D.rows (gt a1 x1_3.toNat 1)) x2_1.toNat 0)))]] 0 0)), D.i (D.int (fn 75 [[D.i x1_3, D.i x2_1, D.i x2_0, D.i x1_1, D.i x1_2], [D.i (D.int (fn 70 [[D.i x1_3], [D.i a0], [D.i x0_1]] 0 0))], [D.i (1 - (D.int (gt (D.rows (gt a1 x1_3.toNat 1)) x2_1.toNat 0)))]] 0 1)), D.i (D.int (fn 75 [[D.i x1_3, D.i x2_1, D.i x2_0, D.i x1_1, D.i x1_2], [D.i (D.int (fn 70 [[D.i x1_3], [D.i a0], [D.i x0_1]] 0 0))], [D.i (1 - (D.int (gt (D.rows (gt a1 x1_3.toNat 1)) x2_1.toNat 0)))]] 0 2)), D.i (D.int (fn 75 [[D.i x1_3, D.i x2_1, D.i x2_0, D.i x1_1, D.i x1_2], [D.i (D.int (fn 70 [[D.i x1_3], [D.i a0], [D.i x0_1]] 0 0))], [D.i (1 - (D.int (gt (D.rows (gt a1 x1_3.toNat 1)) x2_1.toNat 0)))]] 0 3))]] : Rows))) * 32 ≤ 4294967296 ∧ ((List.length ((x2_4 ++ (D.rows (fn 74 [[D.i x1_3, D.i x2_1, D.i x2_0, D.i x1_1, D.i x1_2], [D.l (D.rows (gt (D.rows (gt a1 x1_3.toNat 0)) x2_1.toNat 0))]] 0 0))) : Rows)) + (List.length ([[D.i (D.int (fn 75 [[D.i x1_3, D.i x2_1, D.i x2_0, D.i x1_1, D.i x1_2], [D.i (D.int (fn 70 [[D.i x1_3], [D.i a0], [D.i x0_1]] 0 0))], [D.i (1 - (D.int (gt (D.rows (gt a1 x1_3.toNat 1)) x2_1.toNat 0)))]] 0 0)), D.i (D.int (fn 75 [[D.i x1_3, D.i x2_1, D.i x2_0, D.i x1_1, D.i x1_2], [D.i (D.int (fn 70 [[D.i x1_3], [D.i a0], [D.i x0_1]] 0 0))], [D.i (1 - (D.int (gt (D.rows (gt a1 x1_3.toNat 1)) x2_1.toNat 0)))]] 0 1)), D.i (D.int (fn 75 [[D.i x1_3, D.i x2_1, D.i x2_0, D.i x1_1, D.i x1_2], [D.i (D.int (fn 70 [[D.i x1_3], [D.i a0], [D.i x0_1]] 0 0))], [D.i (1 - (D.int (gt (D.rows (gt a1 x1_3.toNat 1)) x2_1.toNat 0)))]] 0 2)), D.i (D.int (fn 75 [[D.i x1_3, D.i x2_1, D.i x2_0, D.i x1_1, D.i x1_2], [D.i (D.int (fn 70 [[D.i x1_3], [D.i a0], [D.i x0_1]] 0 0))], [D.i (1 - (D.int (gt (D.rows (gt a1 x1_3.toNat 1)) x2_1.toNat 0)))]] 0 3))]] : Rows))) ≤ 4294967296
  g33 : ∀ x0_0 x0_1, I0 x0_0 x0_1 → ∀ x1_0 x1_1 x1_2 x1_3 x1_4 x1_5 x1_6, I1 x0_0 x0_1 x1_0 x1_1 x1_2 x1_3 x1_4 x1_5 x1_6 → ∀ x2_0 x2_1 x2_2 x2_3 x2_4, I2 x0_0 x0_1 x1_0 x1_1 x1_2 x1_3 x1_4 x1_5 x1_6 x2_0 x2_1 x2_2 x2_3 x2_4 → ((D.int (fn 63 [[D.i a0], [D.l a1], [D.nil], [D.nil]] 0 0)) = 0) → (¬ x0_0 < (((D.rows (fn 69 [[D.l a1], [D.nil]] 0 0))).length : Int)) → (x1_3 < (((D.rows (fn 69 [[D.l a1], [D.nil]] 0 0))).length : Int)) → (x2_1 < (D.int (gt (D.rows (fn 69 [[D.l a1], [D.nil]] 0 0)) x1_3.toNat 0))) → -9223372036854775808 ≤ (x2_0 + 1) ∧ (x2_0 + 1) ≤ 9223372036854775807
  g34 : ∀ x0_0 x0_1, I0 x0_0 x0_1 → ∀ x1_0 x1_1 x1_2 x1_3 x1_4 x1_5 x1_6, I1 x0_0 x0_1 x1_0 x1_1 x1_2 x1_3 x1_4 x1_5 x1_6 → ∀ x2_0 x2_1 x2_2 x2_3 x2_4, I2 x0_0 x0_1 x1_0 x1_1 x1_2 x1_3 x1_4 x1_5 x1_6 x2_0 x2_1 x2_2 x2_3 x2_4 → ((D.int (fn 63 [[D.i a0], [D.l a1], [D.nil], [D.nil]] 0 0)) = 0) → (¬ x0_0 < (((D.rows (fn 69 [[D.l a1], [D.nil]] 0 0))).length : Int)) → (x1_3 < (((D.rows (fn 69 [[D.l a1], [D.nil]] 0 0))).length : Int)) → (x2_1 < (D.int (gt (D.rows (fn 69 [[D.l a1], [D.nil]] 0 0)) x1_3.toNat 0))) → -9223372036854775808 ≤ (x2_1 + 1) ∧ (x2_1 + 1) ≤ 9223372036854775807
  n35 : ∀ x0_0 x0_1, I0 x0_0 x0_1 → ∀ x1_0 x1_1 x1_2 x1_3 x1_4 x1_5 x1_6, I1 x0_0 x0_1 x1_0 x1_1 x1_2 x1_3 x1_4 x1_5 x1_6 → ∀ x2_0 x2_1 x2_2 x2_3 x2_4, I2 x0_0 x0_1 x1_0 x1_1 x1_2 x1_3 x1_4 x1_5 x1_6 x2_0 x2_1 x2_2 x2_3 x2_4 → ((D.int (fn 63 [[D.i a0], [D.l a1], [D.nil], [D.nil]] 0 0)) = 0) → (¬ x0_0 < (((D.rows (fn 69 [[D.l a1], [D.nil]] 0 0))).length : Int)) → (x1_3 < (((D.rows (fn 69 [[D.l a1], [D.nil]] 0 0))).length : Int)) → (x2_1 < (D.int (gt (D.rows (fn 69 [[D.l a1], [D.nil]] 0 0)) x1_3.toNat 0))) → I2 x0_0 x0_1 x1_0 x1_1 x1_2 x1_3 x1_4 x1_5 x1_6 (x2_0 + 1) (x2_1 + 1) x2_2 x2_3 ((x2_4 ++ (D.rows (fn 74 [[D.i x1_3, D.i x2_1, D.i x2_0, D.i x1_1, D.i x1_2], [D.l (D.rows (gt (D.rows (gt a1 x1_3.toNat 0)) x2_1.toNat 0))]] 0 0))) ++ [[D.i (D.int (fn 75 [[D.i x1_3, D.i x2_1, D.i x2_0, D.i x1_1, D.i x1_2], [D.i (D.int (fn 70 [[D.i x1_3], [D.i a0], [D.i x0_1]] 0 0))], [D.i (1 - (D.int (gt (D.rows (gt a1 x1_3.toNat 1)) x2_1.toNat 0)))]] 0 0)), D.i (D.int (fn 75 [[D.i x1_3, D.i x2_1, D.i x2_0, D.i x1_1, D.i x1_2], [D.i (D.int (fn 70 [[D.i x1_3], [D.i a0], [D.i x0_1]] 0 0))], [D.i (1 - (D.int (gt (D.rows (gt a1 x1_3.toNat 1)) x2_1.toNat 0)))]] 0 1)), D.i (D.int (fn 75 [[D.i x1_3, D.i x2_1, D.i x2_0, D.i x1_1, D.i x1_2], [D.i (D.int (fn 70 [[D.i x1_3], [D.i a0], [D.i x0_1]] 0 0))], [D.i (1 - (D.int (gt (D.rows (gt a1 x1_3.toNat 1)) x2_1.toNat 0)))]] 0 2)), D.i (D.int (fn 75 [[D.i x1_3, D.i x2_1, D.i x2_0, D.i x1_1, D.i x1_2], [D.i (D.int (fn 70 [[D.i x1_3], [D.i a0], [D.i x0_1]] 0 0))], [D.i (1 - (D.int (gt (D.rows (gt a1 x1_3.toNat 1)) x2_1.toNat 0)))]] 0 3))]]) ∧ m2 x0_0 x0_1 x1_0 x1_1 x1_2 x1_3 x1_4 x1_5 x1_6 (x2_0 + 1) (x2_1 + 1) x2_2 x2_3 ((x2_4 ++ (D.rows (fn 74 [[D.i x1_3, D.i x2_1, D.i x2_0, D.i x1_1, D.i x1_2], [D.l (D.rows (gt (D.rows (gt a1 x1_3.toNat 0)) x2_1.toNat 0))]] 0 0))) ++ [[D.i (D.int (fn 75 [[D.i x1_3, D.i x2_1, D.i x2_0, D.i x1_1, D.i x1_2], [D.i (D.int (fn 70 [[D.i x1_3], [D.i a0], [D.i x0_1]] 0 0))], [D.i (1 - (D.int (gt (D.rows (gt a1 x1_3.toNat 1)) x2_1.toNat 0)))]] 0 0)), D.i (D.int (fn 75 [[D.i x1_3, D.i x2_1, D.i x2_0, D.i x1_1, D.i x1_2], [D.i (D.int (fn 70 [[D.i x1_3], [D.i a0], [D.i x0_1]] 0 0))], [D.i (1 - (D.int (gt (D.rows (gt a1 x1_3.toNat 1)) x2_1.toNat 0)))]] 0 1)), D.i (D.int (fn 75 [[D.i x1_3, D.i x2_1, D.i x2_0, D.i x1_1, D.i x1_2], [D.i (D.int (fn 70 [[D.i x1_3], [D.i a0], [D.i x0_1]] 0 0))], [D.i (1 - (D.int (gt (D.rows (gt a1 x1_3.toNat 1)) x2_1.toNat 0)))]] 0 2)), D.i (D.int (fn 75 [[D.i x1_3, D.i x2_1, D.i x2_0, D.i x1_1, D.i x1_2], [D.i (D.int (fn 70 [[D.i x1_3], [D.i a0], [D.i x0_1]] 0 0))], [D.i (1 - (D.int (gt (D.rows (gt a1 x1_3.toNat 1)) x2_1.toNat 0)))]] 0 3))]]) < m2 x0_0 x0_1 x1_0 x1_1 x1_2 x1_3 x1_4 x1_5 x1_6 x2_0 x2_1 x2_2 x2_3 x2_4
  g36 : ∀ x0_0 x0_1, I0 x0_0 x0_1 → ∀ x1_0 x1_1 x1_2 x1_3 x1_4 x1_5 x1_6, I1 x0_0 x0_1 x1_0 x1_1 x1_2 x1_3 x1_4 x1_5 x1_6 → ∀ x2_0 x2_1 x2_2 x2_3 x2_4, I2 x0_0 x0_1 x1_0 x1_1 x1_2 x1_3 x1_4 x1_5 x1_6 x2_0 x2_1 x2_2 x2_3 x2_4 → ((D.int (fn 63 [[D.i a0], [D.l a1], [D.nil], [D.nil]] 0 0)) = 0) → (¬ x0_0 < (((D.rows (fn 69 [[D.l a1], [D.nil]] 0 0))).length : Int)) → (x1_3 < (((D.rows (fn 69 [[D.l a1], [D.nil]] 0 0))).length : Int)) → (¬ x2_1 < (D.int (gt (D.rows (fn 69 [[D.l a1], [D.nil]] 0 0)) x1_3.toNat 0))) → -9223372036854775808 ≤ (x1_3 + 1) ∧ (x1_3 + 1) ≤ 9223372036854775807
  n37 : ∀ x0_0 x0_1, I0 x0_0 x0_1 → ∀ x1_0 x1_1 x1_2 x1_3 x1_4 x1_5 x1_6, I1 x0_0 x0_1 x1_0 x1_1 x1_2 x1_3 x1_4 x1_5 x1_6 → ∀ x2_0 x2_1 x2_2 x2_3 x2_4, I2 x0_0 x0_1 x1_0 x1_1 x1_2 x1_3 x1_4 x1_5 x1_6 x2_0 x2_1 x2_2 x2_3 x2_4 → ((D.int (fn 63 [[D.i a0], [D.l a1], [D.nil], [D.nil]] 0 0)) = 0) → (¬ x0_0 < (((D.rows (fn 69 [[D.l a1], [D.nil]] 0 0))).length : Int)) → (x1_3 < (((D.rows (fn 69 [[D.l a1], [D.nil]] 0 0))).length : Int)) → (¬ x2_1 < (D.int (gt (D.rows (fn 69 [[D.l a1], [D.nil]] 0 0)) x1_3.toNat 0))) → I1 x0_0 x0_1 x2_0 x1_0 1 (x1_3 + 1) x2_2 x2_3 x2_4 ∧ m1 x0_0 x0_1 x2_0 x1_0 1 (x1_3 + 1) x2_2 x2_3 x2_4 < m1 x0_0 x0_1 x1_0 x1_1 x1_2 x1_3 x1_4 x1_5 x1_6
  g38 : ∀ x0_0 x0_1, I0 x0_0 x0_1 → ∀ x1_0 x1_1 x1_2 x1_3 x1_4 x1_5 x1_6, I1 x0_0 x0_1 x1_0 x1_1 x1_2 x1_3 x1_4 x1_5 x1_6 → ((D.int (fn 63 [[D.i a0], [D.l a1], [D.nil], [D.nil]] 0 0)) = 0) → (¬ x0_0 < (((D.rows (fn 69 [[D.l a1], [D.nil]] 0 0))).length : Int)) → (¬ x1_3 < (((D.rows (fn 69 [[D.l a1], [D.nil]] 0 0))).length : Int)) → -9223372036854775808 ≤ ((a1.length : Int) - 1) ∧ ((a1.length : Int) - 1) ≤ 9223372036854775807
  i3 : ∀ x0_0 x0_1, I0 x0_0 x0_1 → ∀ x1_0 x1_1 x1_2 x1_3 x1_4 x1_5 x1_6, I1 x0_0 x0_1 x1_0 x1_1 x1_2 x1_3 x1_4 x1_5 x1_6 → ((D.int (fn 63 [[D.i a0], [D.l a1], [D.nil], [D.nil]] 0 0)) = 0) → (¬ x0_0 < (((D.rows (fn 69 [[D.l a1], [D.nil]] 0 0))).length : Int)) → (¬ x1_3 < (((D.rows (fn 69 [[D.l a1], [D.nil]] 0 0))).length : Int)) → I3 x0_0 x0_1 x1_0 x1_1 x1_2 x1_3 x1_4 x1_5 x1_6 0 x1_4 x1_5 x1_6
  g40 : ∀ x0_0 x0_1, I0 x0_0 x0_1 → ∀ x1_0 x1_1 x1_2 x1_3 x1_4 x1_5 x1_6, I1 x0_0 x0_1 x1_0 x1_1 x1_2 x1_3 x1_4 x1_5 x1_6 → ∀ x3_0 x3_1 x3_2 x3_3, I3 x0_0 x0_1 x1_0 x1_1 x1_2 x1_3 x1_4 x1_5 x1_6 x3_0 x3_1 x3_2 x3_3 → ((D.int (fn 63 [[D.i a0], [D.l a1], [D.nil], [D.nil]] 0 0)) = 0) → (¬ x0_0 < (((D.rows (fn 69 [[D.l a1], [D.nil]] 0 0))).length : Int)) → (¬ x1_3 < (((D.rows (fn 69 [[D.l a1], [D.nil]] 0 0))).length : Int)) → (x3_0 < ((a1.length : Int) - 1)) → pre 70 [[D.i x3_0], [D.i a0], [D.i x0_1]]
  g41 : ∀ x0_0 x0_1, I0 x0_0 x0_1 → ∀ x1_0 x1_1 x1_2 x1_3 x1_4 x1_5 x1_6, I1 x0_0 x0_1 x1_0 x1_1 x1_2 x1_3 x1_4 x1_5 x1_6 → ∀ x3_0 x3_1 x3_2 x3_3, I3 x0_0 x0_1 x1_0 x1_1 x1_2 x1_3 x1_4 x1_5 x1_6 x3_0 x3_1 x3_2 x3_3 → ((D.int (fn 63 [[D.i a0], [D.l a1], [D.nil], [D.nil]] 0 0)) = 0) → (¬ x0_0 < (((D.rows (fn 69 [[D.l a1], [D.nil]] 0 0))).length : Int)) → (¬ x1_3 < (((D.rows (fn 69 [[D.l a1], [D.nil]] 0 0))).length : Int)) → (x3_0 < ((a1.length : Int) - 1)) → -9223372036854775808 ≤ (x3_0 + 1) ∧ (x3_0 + 1) ≤ 9223372036854775807
  g42 : ∀ x0_0 x0_1, I0 x0_0 x0_1 → ∀ x1_0 x1_1 x1_2 x1_3 x1_4 x1_5 x1_6, I1 x0_0 x0_1 x1_0 x1_1 x1_2 x1_3 x1_4 x1_5 x1_6 → ∀ x3_0 x3_1 x3_2 x3_3, I3 x0_0 x0_1 x1_0 x1_1 x1_2 x1_3 x1_4 x1_5 x1_6 x3_0 x3_1 x3_2 x3_3 → ((D.int (fn 63 [[D.i a0], [D.l a1], [D.nil], [D.nil]] 0 0)) = 0) → (¬ x0_0 < (((D.rows (fn 69 [[D.l a1], [D.nil]] 0 0))).length : Int)) → (¬ x1_3 < (((D.rows (fn 69 [[D.l a1], [D.nil]] 0 0))).length : Int)) → (x3_0 < ((a1.length : Int) - 1)) → pre 70 [[D.i (x3_0 + 1)], [D.i a0], [D.i x0_1]]
  g43 : ∀ x0_0 x0_1, I0 x0_0 x0_1 → ∀ x1_0 x1_1 x1_2 x1_3 x1_4 x1_5 x1_6, I1 x0_0 x0_1 x1_0 x1_1 x1_2 x1_3 x1_4 x1_5 x1_6 → ∀ x3_0 x3_1 x3_2 x3_3, I3 x0_0 x0_1 x1_0 x1_1 x1_2 x1_3 x1_4 x1_5 x1_6 x3_0 x3_1 x3_2 x3_3 → ((D.int (fn 63 [[D.i a0], [D.l a1], [D.nil], [D.nil]] 0 0)) = 0) → (¬ x0_0 < (((D.rows (fn 69 [[D.l a1], [D.nil]] 0 0))).length : Int)) → (¬ x1_3 < (((D.rows (fn 69 [[D.l a1], [D.nil]] 0 0))).length : Int)) → (x3_0 < ((a1.length : Int) - 1)) → (x3_3.length + (List.length ([[D.i (D.int (fn 70 [[D.i x3_0], [D.i a0], [D.i x0_1]] 0 0)), D.i (D.int (fn 70 [[D.i (x3_0 + 1)], [D.i a0], [D.i x0_1]] 0 0)), D.i 1, D.i 1]] : Rows))) * 32 ≤ 4294967296 ∧ (x3_3.length + (List.length ([[D.i (D.int (fn 70 [[D.i x3_0], [D.i a0], [D.i x0_1]] 0 0)), D.i (D.int (fn 70 [[D.i (x3_0 + 1)], [D.i a0], [D.i x0_1]] 0 0)), D.i 1, D.i 1]] : Rows))) ≤ 4294967296
  n45 : ∀ x0_0 x0_1, I0 x0_0 x0_1 → ∀ x1_0 x1_1 x1_2 x1_3 x1_4 x1_5 x1_6, I1 x0_0 x0_1 x1_0 x1_1 x1_2 x1_3 x1_4 x1_5 x1_6 → ∀ x3_0 x3_1 x3_2 x3_3, I3 x0_0 x0_1 x1_0 x1_1 x1_2 x1_3 x1_4 x1_5 x1_6 x3_0 x3_1 x3_2 x3_3 → ((D.int (fn 63 [[D.i a0], [D.l a1], [D.nil], [D.nil]] 0 0)) = 0) → (¬ x0_0 < (((D.rows (fn 69 [[D.l a1], [D.nil]] 0 0))).length : Int)) → (¬ x1_3 < (((D.rows (fn 69 [[D.l a1], [D.nil]] 0 0))).length : Int)) → (x3_0 < ((a1.length : Int) - 1)) → I3 x0_0 x0_1 x1_0 x1_1 x1_2 x1_3 x1_4 x1_5 x1_6 (x3_0 + 1) x3_1 x3_2 (x3_3 ++ [[D.i (D.int (fn 70 [[D.i x3_0], [D.i a0], [D.i x0_1]] 0 0)), D.i (D.int (fn 70 [[D.i (x3_0 + 1)], [D.i a0], [D.i x0_1]] 0 0)), D.i 1, D.i 1]]) ∧ m3 x0_0 x0_1 x1_0 x1_1 x1_2 x1_3 x1_4 x1_5 x1_6 (x3_0 + 1) x3_1 x3_2 (x3_3 ++ [[D.i (D.int (fn 70 [[D.i x3_0], [D.i a0], [D.i x0_1]] 0 0)), D.i (D.int (fn 70 [[D.i (x3_0 + 1)], [D.i a0], [D.i x0_1]] 0 0)), D.i 1, D.i 1]]) < m3 x0_0 x0_1 x1_0 x1_1 x1_2 x1_3 x1_4 x1_5 x1_6 x3_0 x3_1 x3_2 x3_3
  g46 : ∀ x0_0 x0_1, I0 x0_0 x0_1 → ∀ x1_0 x1_1 x1_2 x1_3 x1_4 x1_5 x1_6, I1 x0_0 x0_1 x1_0 x1_1 x1_2 x1_3 x1_4 x1_5 x1_6 → ∀ x3_0 x3_1 x3_2 x3_3, I3 x0_0 x0_1 x1_0 x1_1 x1_2 x1_3 x1_4 x1_5 x1_6 x3_0 x3_1 x3_2 x3_3 → ((D.int (fn 63 [[D.i a0], [D.l a1], [D.nil], [D.nil]] 0 0)) = 0) → (¬ x0_0 < (((D.rows (fn 69 [[D.l a1], [D.nil]] 0 0))).length : Int)) → (¬ x1_3 < (((D.rows (fn 69 [[D.l a1], [D.nil]] 0 0))).length : Int)) → (¬ x3_0 < ((a1.length : Int) - 1)) → R 0 0 = D.l x3_1
  g47 : ∀ x0_0 x0_1, I0 x0_0 x0_1 → ∀ x1_0 x1_1 x1_2 x1_3 x1_4 x1_5 x1_6, I1 x0_0 x0_1 x1_0 x1_1 x1_2 x1_3 x1_4 x1_5 x1_6 → ∀ x3_0 x3_1 x3_2 x3_3, I3 x0_0 x0_1 x1_0 x1_1 x1_2 x1_3 x1_4 x1_5 x1_6 x3_0 x3_1 x3_2 x3_3 → ((D.int (fn 63 [[D.i a0], [D.l a1], [D.nil], [D.nil]] 0 0)) = 0) → (¬ x0_0 < (((D.rows (fn 69 [[D.l a1], [D.nil]] 0 0))).length : Int)) → (¬ x1_3 < (((D.rows (fn 69 [[D.l a1], [D.nil]] 0 0))).length : Int)) → (¬ x3_0 < ((a1.length : Int) - 1)) → R 0 1 = D.i x3_2
  g48 : ∀ x0_0 x0_1, I0 x0_0 x0_1 → ∀ x1_0 x1_1 x1_2 x1_3 x1_4 x1_5 x1_6, I1 x0_0 x0_1 x1_0 x1_1 x1_2 x1_3 x1_4 x1_5 x1_6 → ∀ x3_0 x3_1 x3_2 x3_3, I3 x0_0 x0_1 x1_0 x1_1 x1_2 x1_3 x1_4 x1_5 x1_6 x3_0 x3_1 x3_2 x3_3 → ((D.int (fn 63 [[D.i a0], [D.l a1], [D.nil], [D.nil]] 0 0)) = 0) → (¬ x0_0 < (((D.rows (fn 69 [[D.l a1], [D.nil]] 0 0))).length : Int)) → (¬ x1_3 < (((D.rows (fn 69 [[D.l a1], [D.nil]] 0 0))).length : Int)) → (¬ x3_0 < ((a1.length : Int) - 1)) → R 0 2 = D.l x3_3
  g49 : ∀ x0_0 x0_1, I0 x0_0 x0_1 → ∀ x1_0 x1_1 x1_2 x1_3 x1_4 x1_5 x1_6, I1 x0_0 x0_1 x1_0 x1_1 x1_2 x1_3 x1_4 x1_5 x1_6 → ∀ x3_0 x3_1 x3_2 x3_3, I3 x0_0 x0_1 x1_0 x1_1 x1_2 x1_3 x1_4 x1_5 x1_6 x3_0 x3_1 x3_2 x3_3 → ((D.int (fn 63 [[D.i a0], [D.l a1], [D.nil], [D.nil]] 0 0)) = 0) → (¬ x0_0 < (((D.rows (fn 69 [[D.l a1], [D.nil]] 0 0))).length : Int)) → (¬ x1_3 < (((D.rows (fn 69 [[D.l a1], [D.nil]] 0 0))).length : Int)) → (¬ x3_0 < ((a1.length : Int) - 1)) → R 1 0 = D.i 0
end HX

namespace HX
open Go Go.Proofs CX
structure V70 (a0 : Int) (a1 : Int) (a2 : Int) (R : Nat → Nat → D)  : Prop where
  g0 : (a0 = 0) → -9223372036854775808 ≤ ((-1) - (D.int (gt [[D.i a1]] 0 0))) ∧ ((-1) - (D.int (gt [[D.i a1]] 0 0))) ≤ 9223372036854775807
  g1 : (a0 = 0) → R 0 0 = D.i ((-1) - (D.int (gt [[D.i a1]] 0 0)))
  g2 : (¬ a0 = 0) → -9223372036854775808 ≤ ((D.int (gt [[D.i a2]] 0 0)) + a0) ∧ ((D.int (gt [[D.i a2]] 0 0)) + a0) ≤ 9223372036854775807
  g3 : (¬ a0 = 0) → -9223372036854775808 ≤ (((D.int (gt [[D.i a2]] 0 0)) + a0) - 1) ∧ (((D.int (gt [[D.i a2]] 0 0)) + a0) - 1) ≤ 9223372036854775807
  g4 : (¬ a0 = 0) → R 0 0 = D.i (((D.int (gt [[D.i a2]] 0 0)) + a0) - 1)
end HX

namespace HX
open Go Go.Proofs CX
structure V72  (R : Nat → Nat → D)  : Prop where
  g0 : R 0 0 = D.i 2
  g1 : R 0 1 = D.i 256
  g2 : R 0 2 = D.i 0
  g3 : R 0 3 = D.i 1
  g4 : R 0 4 = D.i 0
  g5 : R 0 5 = D.i 0
  g6 : R 0 6 = D.i 0
  g7 : R 0 7 = D.i 0
end HX
