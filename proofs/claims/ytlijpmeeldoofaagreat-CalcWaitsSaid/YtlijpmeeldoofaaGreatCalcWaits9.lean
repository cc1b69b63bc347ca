/-
  Texts of the executors: CxWorks1, CxWorks, HxTab, HxC, HxLib, V4, W4, HxEnv, CxClose, HxBase, HxClose, HxOwn, HxCtr, CbB, V11, V13, V14, V48, V53, V20, V21, V22, V23, V24, V25, CaW, CaL, W11.
-/
import Derived.Test.YtlijpmeeldoofaaGreatCalcWaits8
import Derived.WalkKit
import Derived.ProofKit
import Derived.JoinedCond
import Derived.RowKit3
import Derived.ChangeArms
import Derived.ChangeCalls
import Derived.WideKeyArgs
set_option linter.all false
namespace CX
open Go Go.Proofs

noncomputable def args1 : List V := [gR p0R 0]
theorem ent1 : leS p0 ⟨Tryz.f58.ntmps, 0, entered args1 0 .e, p0H, p0.nx, []⟩ = true := by kernel_rfl
theorem res1 : resultsX env pz.regs pz.h Tryz.f58.results.toList (fun l => retV (one l) pz.h pz.nx) = retV (gR pvR 0) pz.h pz.nx := by kernel_rfl
theorem fits1 : Nat.ble (len args1) Tryz.f58.ntmps = true := by kernel_rfl
noncomputable def env1 : Env := env.and 58 (.known p0H p0.nx args1 (gR pvR 0) pzH pz.nx)
theorem env1_ok : EnvOk env1 Tryz.prog :=
  EnvOk.and env_ok (known_call env_ok (fun _ => rfl) fP_fn rfl fP_body fits1 (Known.from (leS_ok ent1) run1) (.inr rfl) rfl res1)

noncomputable def args2 : List V := [gR q0R 0]
theorem ent2 : leS q0 ⟨Tryz.f58.ntmps, 0, entered args2 0 .e, q0H, q0.nx, []⟩ = true := by kernel_rfl
theorem res2 : resultsX env qz.regs qz.h Tryz.f58.results.toList (fun l => retV (one l) qz.h qz.nx) = retV (gR qvR 0) qz.h qz.nx := by kernel_rfl
theorem fits2 : Nat.ble (len args2) Tryz.f58.ntmps = true := by kernel_rfl
noncomputable def env2 : Env := env.and 58 (.known q0H q0.nx args2 (gR qvR 0) qzH qz.nx)
theorem env2_ok : EnvOk env2 Tryz.prog :=
  EnvOk.and env_ok (known_call env_ok (fun _ => rfl) fP_fn rfl fP_body fits2 (Known.from (leS_ok ent2) run2) (.inr rfl) rfl res2)

noncomputable def args3 : List V := [gR r0R 0]
theorem ent3 : leS r0 ⟨Tryz.f58.ntmps, 0, entered args3 0 .e, r0H, r0.nx, []⟩ = true := by kernel_rfl
theorem res3 : resultsX env rz.regs rz.h Tryz.f58.results.toList (fun l => retV (one l) rz.h rz.nx) = retV (gR rvR 0) rz.h rz.nx := by kernel_rfl
theorem fits3 : Nat.ble (len args3) Tryz.f58.ntmps = true := by kernel_rfl
noncomputable def env3 : Env := env.and 58 (.known r0H r0.nx args3 (gR rvR 0) rzH rz.nx)
theorem env3_ok : EnvOk env3 Tryz.prog :=
  EnvOk.and env_ok (known_call env_ok (fun _ => rfl) fP_fn rfl fP_body fits3 (Known.from (leS_ok ent3) run3) (.inr rfl) rfl res3)
end CX

namespace CX
open Go Go.Proofs

theorem w1 : isS s16 (runL env 1000 none (pcW.take 16) ⟨196, 0, .e, .e, 0, []⟩) = true := by kernel_rfl
theorem w2 : isS s20 (runL env1 1000 none ((pcW.drop 16).take 4) s16) = true := by kernel_rfl
theorem w3 : isS s22 (runL env2 1000 none ((pcW.drop 20).take 2) s20) = true := by kernel_rfl
theorem w4 : isE .ret wZ (runE env3 1000 none (pcW.drop 22) s22) = true := by kernel_rfl
theorem w_res : resultsX env wZ.regs wZ.h Tryz.f9.results.toList (fun l => retV (one l) wZ.h wZ.nx) = retV (.bool true) wZ.h wZ.nx := by kernel_rfl

theorem cut (n m : Nat) : pcW.drop n = (pcW.drop n).take m ++ pcW.drop (n + m) := by
  rw [← List.drop_drop, List.take_append_drop]

theorem works_known : Known env Tryz.prog none (fb Tryz.f9) ⟨196, 0, .e, .e, 0, []⟩ .ret wZ := by
  refine KnownL.code ?_
  rw [show flatC (fb Tryz.f9) = pcW.take 16 ++ pcW.drop 16 from (List.take_append_drop 16 pcW).symm]
  refine KnownL.chunk env_ok w1 ?_
  refine KnownL.env (E := env1) (E' := env) rfl ?_
  rw [cut 16 4]
  refine KnownL.chunk env1_ok w2 ?_
  refine KnownL.env (E := env2) (E' := env1) rfl ?_
  rw [cut 20 2]
  refine KnownL.chunk env2_ok w3 ?_
  refine KnownL.env (E := env3) (E' := env2) rfl ?_
  exact KnownL.endC env3_ok w4

theorem works_ok (w : World) : Calls Tryz.prog 9 #[] w fun e w' => e = .returned (.bool true) ∧ Kept w w' :=
  known_closed env_ok (fun _ => rfl) fW_fn rfl fW_body works_known (.inr rfl) rfl w_res w
end CX

namespace HX
open Go Go.Proofs

noncomputable def tyB : BT CX.Ty := (.n (.n (.n (.n (.n (.n (.n (.n (.n .e 1 CX.ty1 .e) 2 CX.ty2 .e) 3 CX.ty3 (.n .e 4 CX.ty4 .e)) 5 CX.ty5 (.n (.n .e 6 CX.ty6 .e) 7 CX.ty7 (.n .e 8 CX.ty8 .e))) 9 CX.ty9 (.n (.n (.n (.n .e 10 CX.ty10 .e) 11 CX.ty11 .e) 12 CX.ty12 (.n .e 13 CX.ty13 .e)) 14 CX.ty14 (.n (.n .e 15 CX.ty15 .e) 16 CX.ty16 (.n .e 17 CX.ty17 .e)))) 18 CX.ty18 (.n (.n (.n (.n (.n .e 19 CX.ty19 .e) 20 CX.ty20 .e) 21 CX.ty21 (.n .e 22 CX.ty22 .e)) 23 CX.ty23 (.n (.n .e 24 CX.ty24 .e) 25 CX.ty25 (.n .e 26 CX.ty26 .e))) 28 CX.ty28 (.n (.n (.n .e 29 CX.ty29 .e) 30 CX.ty30 (.n .e 31 CX.ty31 .e)) 32 CX.ty32 (.n (.n .e 33 CX.ty33 .e) 35 CX.ty35 (.n .e 37 CX.ty37 .e))))) 38 CX.ty38 (.n (.n (.n (.n (.n (.n .e 39 CX.ty39 .e) 40 CX.ty40 .e) 41 CX.ty41 (.n .e 42 CX.ty42 .e)) 44 CX.ty44 (.n (.n .e 46 CX.ty46 .e) 48 CX.ty48 (.n .e 49 CX.ty49 .e))) 50 CX.ty50 (.n (.n (.n .e 51 CX.ty51 .e) 52 CX.ty52 (.n .e 53 CX.ty53 .e)) 54 CX.ty54 (.n (.n .e 55 CX.ty55 .e) 56 CX.ty56 (.n .e 57 CX.ty57 .e)))) 58 CX.ty58 (.n (.n (.n (.n (.n .e 59 CX.ty59 .e) 60 CX.ty60 .e) 62 CX.ty62 (.n .e 63 CX.ty63 .e)) 64 CX.ty64 (.n (.n .e 65 CX.ty65 .e) 66 CX.ty66 (.n .e 67 CX.ty67 .e))) 68 CX.ty68 (.n (.n (.n .e 69 CX.ty69 .e) 71 CX.ty71 (.n .e 72 CX.ty72 .e)) 73 CX.ty73 (.n (.n .e 74 CX.ty74 .e) 75 CX.ty75 (.n .e 76 CX.ty76 .e)))))) 77 CX.ty77 (.n (.n (.n (.n (.n (.n (.n .e 78 CX.ty78 .e) 79 CX.ty79 .e) 80 CX.ty80 (.n .e 81 CX.ty81 .e)) 83 CX.ty83 (.n (.n .e 85 CX.ty85 .e) 86 CX.ty86 (.n .e 88 CX.ty88 .e))) 89 CX.ty89 (.n (.n (.n (.n .e 90 CX.ty90 .e) 91 CX.ty91 .e) 92 CX.ty92 (.n .e 93 CX.ty93 .e)) 94 CX.ty94 (.n (.n .e 95 CX.ty95 .e) 96 CX.ty96 (.n .e 97 CX.ty97 .e)))) 98 CX.ty98 (.n (.n (.n (.n (.n .e 99 CX.ty99 .e) 100 CX.ty100 .e) 101 CX.ty101 (.n .e 103 CX.ty103 .e)) 104 CX.ty104 (.n (.n .e 105 CX.ty105 .e) 106 CX.ty106 (.n .e 107 CX.ty107 .e))) 108 CX.ty108 (.n (.n (.n .e 109 CX.ty109 .e) 110 CX.ty110 (.n .e 111 CX.ty111 .e)) 112 CX.ty112 (.n (.n .e 113 CX.ty113 .e) 114 CX.ty114 (.n .e 115 CX.ty115 .e))))) 116 CX.ty116 (.n (.n (.n (.n (.n (.n .e 117 CX.ty117 .e) 118 CX.ty118 .e) 119 CX.ty119 (.n .e 120 CX.ty120 .e)) 121 CX.ty121 (.n (.n .e 122 CX.ty122 .e) 123 CX.ty123 (.n .e 124 CX.ty124 .e))) 125 CX.ty125 (.n (.n (.n .e 126 CX.ty126 .e) 127 CX.ty127 (.n .e 128 CX.ty128 .e)) 129 CX.ty129 (.n (.n .e 131 CX.ty131 .e) 132 CX.ty132 (.n .e 133 CX.ty133 .e)))) 134 CX.ty134 (.n (.n (.n (.n (.n .e 135 CX.ty135 .e) 136 CX.ty136 .e) 137 CX.ty137 (.n .e 138 CX.ty138 .e)) 139 CX.ty139 (.n (.n .e 140 CX.ty140 .e) 141 CX.ty141 (.n .e 142 CX.ty142 .e))) 144 CX.ty144 (.n (.n (.n .e 145 CX.ty145 .e) 147 CX.ty147 (.n .e 148 CX.ty148 .e)) 149 CX.ty149 (.n (.n .e 150 CX.ty150 .e) 151 CX.ty151 (.n .e 152 CX.ty152 .e))))))) 153 CX.ty153 (.n (.n (.n (.n (.n (.n (.n (.n .e 154 CX.ty154 .e) 155 CX.ty155 .e) 156 CX.ty156 (.n .e 157 CX.ty157 .e)) 158 CX.ty158 (.n (.n .e 159 CX.ty159 .e) 160 CX.ty160 (.n .e 161 CX.ty161 .e))) 162 CX.ty162 (.n (.n (.n (.n .e 163 CX.ty163 .e) 164 CX.ty164 .e) 165 CX.ty165 (.n .e 166 CX.ty166 .e)) 167 CX.ty167 (.n (.n .e 168 CX.ty168 .e) 169 CX.ty169 (.n .e 170 CX.ty170 .e)))) 171 CX.ty171 (.n (.n (.n (.n (.n .e 172 CX.ty172 .e) 173 CX.ty173 .e) 174 CX.ty174 (.n .e 175 CX.ty175 .e)) 176 CX.ty176 (.n (.n .e 177 CX.ty177 .e) 178 CX.ty178 (.n .e 179 CX.ty179 .e))) 180 CX.ty180 (.n (.n (.n .e 181 CX.ty181 .e) 182 CX.ty182 (.n .e 183 CX.ty183 .e)) 184 CX.ty184 (.n (.n .e 185 CX.ty185 .e) 186 CX.ty186 (.n .e 187 CX.ty187 .e))))) 188 CX.ty188 (.n (.n (.n (.n (.n (.n .e 189 CX.ty189 .e) 190 CX.ty190 .e) 191 CX.ty191 (.n .e 192 CX.ty192 .e)) 193 CX.ty193 (.n (.n .e 194 CX.ty194 .e) 195 CX.ty195 (.n .e 196 CX.ty196 .e))) 197 CX.ty197 (.n (.n (.n .e 198 CX.ty198 .e) 199 CX.ty199 (.n .e 200 CX.ty200 .e)) 201 CX.ty201 (.n (.n .e 202 CX.ty202 .e) 204 CX.ty204 (.n .e 205 CX.ty205 .e)))) 206 CX.ty206 (.n (.n (.n (.n (.n .e 207 CX.ty207 .e) 209 CX.ty209 .e) 210 CX.ty210 (.n .e 212 CX.ty212 .e)) 214 CX.ty214 (.n (.n .e 215 CX.ty215 .e) 216 CX.ty216 (.n .e 217 CX.ty217 .e))) 218 CX.ty218 (.n (.n (.n .e 219 CX.ty219 .e) 220 CX.ty220 (.n .e 221 CX.ty221 .e)) 222 CX.ty222 (.n (.n .e 223 CX.ty223 .e) 224 CX.ty224 (.n .e 225 CX.ty225 .e)))))) 227 CX.ty227 (.n (.n (.n (.n (.n (.n (.n .e 228 CX.ty228 .e) 229 CX.ty229 .e) 230 CX.ty230 (.n .e 231 CX.ty231 .e)) 232 CX.ty232 (.n (.n .e 233 CX.ty233 .e) 234 CX.ty234 (.n .e 235 CX.ty235 .e))) 236 CX.ty236 (.n (.n (.n .e 237 CX.ty237 .e) 238 CX.ty238 (.n .e 239 CX.ty239 .e)) 240 CX.ty240 (.n (.n .e 241 CX.ty241 .e) 242 CX.ty242 (.n .e 243 CX.ty243 .e)))) 244 CX.ty244 (.n (.n (.n (.n (.n .e 245 CX.ty245 .e) 246 CX.ty246 .e) 247 CX.ty247 (.n .e 248 CX.ty248 .e)) 249 CX.ty249 (.n (.n .e 250 CX.ty250 .e) 251 CX.ty251 (.n .e 252 CX.ty252 .e))) 253 CX.ty253 (.n (.n (.n .e 254 CX.ty254 .e) 256 CX.ty256 (.n .e 257 CX.ty257 .e)) 258 CX.ty258 (.n (.n .e 259 CX.ty259 .e) 260 CX.ty260 (.n .e 261 CX.ty261 .e))))) 262 CX.ty262 (.n (.n (.n (.n (.n (.n .e 263 CX.ty263 .e) 264 CX.ty264 .e) 265 CX.ty265 (.n .e 266 CX.ty266 .e)) 267 CX.ty267 (.n (.n .e 268 CX.ty268 .e) 269 CX.ty269 (.n .e 270 CX.ty270 .e))) 273 CX.ty273 (.n (.n (.n .e 274 CX.ty274 .e) 275 CX.ty275 (.n .e 276 CX.ty276 .e)) 277 CX.ty277 (.n (.n .e 278 CX.ty278 .e) 279 CX.ty279 (.n .e 280 CX.ty280 .e)))) 282 CX.ty282 (.n (.n (.n (.n (.n .e 283 CX.ty283 .e) 284 CX.ty284 .e) 285 CX.ty285 (.n .e 286 CX.ty286 .e)) 287 CX.ty287 (.n (.n .e 288 CX.ty288 .e) 289 CX.ty289 (.n .e 290 CX.ty290 .e))) 291 CX.ty291 (.n (.n (.n .e 292 CX.ty292 .e) 293 CX.ty293 (.n .e 294 CX.ty294 .e)) 295 CX.ty295 (.n (.n .e 296 CX.ty296 .e) 297 CX.ty297 (.n .e 298 CX.ty298 .e))))))))
def ksB : BT (List Kd) := (.n (.n (.n (.n (.n (.n (.n .e 2 [.int .i64] .e) 3 [.int .i64] (.n .e 4 [.bool] .e)) 5 [.int .u8] (.n (.n .e 6 [.int .u8] .e) 7 [.int .i64, .int .i64, .bool, .int .u8] .e)) 8 [.int .i64, .int .i64, .bool, .int .u8] (.n (.n (.n .e 9 [.str] .e) 10 [.str] .e) 11 [.str] (.n (.n .e 12 [.int .u64] .e) 13 [.str, .int .u64] .e))) 14 [.str, .int .u64] (.n (.n (.n (.n .e 21 [.int .i32] .e) 22 [.sl [.int .i64]] .e) 23 [.int .i64, .int .i64] (.n (.n .e 24 [.int .i64, .int .i64] .e) 26 [.int .i64] .e)) 29 [.int .i64, .int .i64] (.n (.n (.n .e 41 [.sl [.int .i64, .int .i64]] .e) 42 [.sl [.int .i64, .int .i64]] .e) 53 [.int .i64, .int .i64, .int .i64] (.n (.n .e 54 [.int .i64, .int .i64, .int .i64] .e) 55 [.sl [.int .i64, .int .i64, .sl [.int .i64], .int .i64, .int .i64, .int .i64]] .e)))) 57 [.sl [.int .i64, .int .i64, .int .i64, .int .i64, .int .i64]] (.n (.n (.n (.n (.n .e 58 [.sl [.sl [.int .i64]]] .e) 59 [.sl [.int .i64, .int .i64, .int .i64, .int .i64, .int .i64], .sl [.sl [.int .i64]]] .e) 60 [.sl [.int .i64, .int .i64, .int .i64, .int .i64, .int .i64], .sl [.sl [.int .i64]]] (.n (.n .e 63 [.int .i64, .int .i64, .int .i64] .e) 65 [.sl [.int .i64, .int .i64, .sl [.int .i64], .int .i64, .int .i64, .int .i64]] .e)) 67 [.sl [.int .i64, .int .i64, .int .i64, .int .i64, .int .i64]] (.n (.n (.n .e 68 [.sl [.int .i64, .int .i64, .int .i64, .int .i64, .int .i64], .sl [.sl [.int .i64]]] .e) 69 [.sl [.int .i64, .int .i64, .int .i64, .int .i64, .int .i64], .sl [.sl [.int .i64]]] .e) 79 [.sl [.int .u8, .sl [.int .u8], .bool, .int .u16, .int .u16, .sl [.int .u8]]] (.n (.n .e 81 [.sl [.int .i64, .int .i64, .int .i64, .int .i64]] .e) 86 [.sl [.sl [.int .i64, .int .i64, .int .i64]]] .e))) 89 [.sl [.int .i64, .int .i64, .sl [.int .i64]]] (.n (.n (.n (.n .e 91 [.int .i64, .int .i64, .int .i64, .int .i64] .e) 92 [.int .i64, .int .i64, .int .i64, .int .i64] .e) 93 [.int .i64, .int .i64, .sl [.int .i64]] (.n (.n .e 94 [.int .i64, .int .i64, .sl [.int .i64]] .e) 95 [.int .i64, .int .i64, .sl [.int .i64], .int .i64, .int .i64, .int .i64] .e)) 96 [.int .i64, .int .i64, .sl [.int .i64], .int .i64, .int .i64, .int .i64] (.n (.n (.n .e 97 [.sl [.int .i64, .int .i64, .int .i64]] .e) 98 [.sl [.int .i64, .int .i64, .int .i64, .int .i64]] .e) 99 [.sl [.int .i64, .int .i64]] (.n (.n .e 100 [.sl [.int .i64, .int .i64, .int .i64], .sl [.int .i64, .int .i64, .int .i64, .int .i64], .sl [.int .i64, .int .i64], .int .i64] .e) 101 [.sl [.int .i64, .int .i64, .int .i64], .sl [.int .i64, .int .i64, .int .i64, .int .i64], .sl [.int .i64, .int .i64], .int .i64] .e))))) 105 [.int .i64, .int .i64, .int .i64] (.n (.n (.n (.n (.n (.n .e 106 [.int .i64, .int .i64, .int .i64] .e) 107 [.int .i64, .int .i64] (.n .e 110 [.sl [.int .u8]] .e)) 111 [.int .u16] (.n (.n .e 114 [.sl [.int .i64], .sl [.int .i64]] .e) 117 [.int .i64, .int .i64, .int .i64, .int .i64, .int .i64] .e)) 118 [.int .i64, .int .i64, .int .i64, .int .i64, .int .i64] (.n (.n (.n .e 126 [.int .i64, .int .i64, .sl [.int .i64]] .e) 127 [.int .i64, .int .i64, .sl [.int .i64], .int .i64, .int .i64, .int .i64] .e) 128 [.int .i64, .int .i64, .sl [.int .i64], .int .i64, .int .i64, .int .i64] (.n (.n .e 133 [.sl [.int .i64, .int .i64, .int .i64]] .e) 135 [.int .i64, .int .i64, .int .i64] .e))) 136 [.int .i64, .int .i64, .int .i64] (.n (.n (.n (.n .e 137 [.int .i64, .int .i64] .e) 138 [.int .i64, .int .i64] .e) 141 [.int .i64, .int .i64, .int .i64, .sl [.int .i64, .int .i64, .sl [.int .i64], .int .i64, .int .i64, .int .i64], .sl [.sl [.int .i64]]] (.n (.n .e 142 [.int .i64, .int .i64, .int .i64, .sl [.int .i64, .int .i64, .sl [.int .i64], .int .i64, .int .i64, .int .i64], .sl [.sl [.int .i64]]] .e) 148 [.int .i64, .int .i64, .int .i64, .int .i64, .int .i64] .e)) 157 [.sl [.sl [.sl [.int .i64, .int .i64, .int .i64]]]] (.n (.n (.n .e 164 [.int .u8, .sl [.int .u8], .bool, .int .u16, .int .u16, .sl [.int .u8]] .e) 165 [.int .u8, .sl [.int .u8], .bool, .int .u16, .int .u16, .sl [.int .u8]] .e) 169 [.sl [.int .i64, .int .i64, .int .i64]] (.n (.n .e 170 [.int .i64, .int .i64, .int .i64] .e) 171 [.int .i64, .int .i64, .int .i64] .e)))) 188 [.int .i64, .int .i64, .int .i64] (.n (.n (.n (.n (.n .e 189 [.int .i64, .int .i64, .int .i64] .e) 191 [.sl [.int .i64]] .e) 192 [.sl [.int .i64]] (.n (.n .e 196 [.sl [.sl [.int .i64, .int .i64, .int .i64]]] .e) 206 [.sl [.int .i64, .int .i64, .sl [.int .i64]]] .e)) 207 [.sl [.sl [.int .i64, .int .i64, .int .i64]]] (.n (.n (.n .e 222 [.int .u64] .e) 228 [.int .i64, .int .i64, .int .i64, .int .i64] .e) 229 [.int .i64, .int .i64, .int .i64, .int .i64] (.n (.n .e 239 [.int .i64, .int .i64, .int .i64, .int .i64] .e) 240 [.int .i64, .int .i64, .int .i64, .int .i64] .e))) 244 [.sl [.int .i64, .int .i64, .int .i64]] (.n (.n (.n (.n .e 246 [.int .i64, .int .i64, .int .i64] .e) 250 [.int .i64, .int .i64] .e) 251 [.int .i64, .int .i64] (.n (.n .e 254 [.int .i64] .e) 261 [.int .u32] .e)) 263 [.int .u64] (.n (.n (.n .e 273 [.int .u64] .e) 290 [.int .u8] .e) 291 [.int .u8] (.n (.n .e 294 [.int .i32] .e) 295 [.int .i32] .e))))))
end HX

namespace HX
open Go Go.Proofs CX

noncomputable def tyF (t : Nat) : Option CX.Ty := tyB.get t
def ksF (t : Nat) : Option (List Kd) := ksB.get t
noncomputable def fnF (f : Nat) : Option Func := CX.env.fn f
def extF (f : Nat) : Option CX.Ext := match beqN f 9 with
  | true => some (.bool true)
  | false => none
noncomputable def cxE (ro : Addr → Option V) : CX.Env := ⟨tyF, fnF, extF, ro⟩

structure Ctr where
  f : Nat
  sg : Sig
  pre : List (List D) → Prop
  res : List (List D) → Nat → Nat → D

def inlL (l : List (Nat × Func)) (f : Nat) : Option Func := look l f
def sigL (l : List (Nat × Sig)) (f : Nat) : Option Sig := look l f
def sigs (l : List Ctr) : List (Nat × Sig) := l.map fun c => (c.f, c.sg)
def ctrOf : List Ctr → Nat → Option Ctr
  | [], _ => none
  | c :: r, f => if c.f = f then some c else ctrOf r f
def preOf (l : List Ctr) (f : Nat) (ds : List (List D)) : Prop := match ctrOf l f with
  | some c => c.pre ds
  | none => False
def resOf (l : List Ctr) (f : Nat) (ds : List (List D)) : Nat → Nat → D := match ctrOf l f with
  | some c => c.res ds
  | none => fun _ _ => .nil
end HX

namespace HX
open Go Go.Proofs CX

inductive Inls (E : CX.Env) : List (Nat × Func) → Prop
  | nil : Inls E []
  | cons {f : Nat} {fn : Func} {l : List (Nat × Func)} (h : E.fn f = some fn) (h' : E.ext f = none) (r : Inls E l) : Inls E ((f, fn) :: l)
theorem Inls.ok {E : CX.Env} : ∀ {l : List (Nat × Func)}, Inls E l → ∀ f fn, inlL l f = some fn → E.fn f = some fn ∧ E.ext f = none
  | [], _, f, fn, h => by simp [inlL, look] at h
  | (g, gn) :: l, .cons h1 h2 r, f, fn, h => by
    unfold inlL at h
    rw [look_cons] at h
    split at h
    · rename_i e
      simp only [Option.some.injEq] at h
      subst e h
      exact ⟨h1, h2⟩
    · exact r.ok f fn h

def mxI (x y : Int) : Int := if x < y then y else x
def mnI (x y : Int) : Int := if y < x then y else x
theorem mxI_eq (x y : Int) : mxI x y = max x y := by unfold mxI; split <;> omega
theorem mnI_eq (x y : Int) : mnI x y = min x y := by unfold mnI; split <;> omega
theorem dt {p : Prop} [d : Decidable p] (h : decide p = true) : p := of_decide_eq_true h
theorem df {p : Prop} [d : Decidable p] (h : decide p = false) : ¬ p := of_decide_eq_false h
theorem nt {b : Bool} (h : (!b) = true) : b = false := by simpa using h
theorem nf {b : Bool} (h : (!b) = false) : b = true := by simpa using h
theorem and_t {a b : Bool} (h : (a && b) = true) : a = true ∧ b = true := by simpa using h
theorem and_f {a b : Bool} (h : (a && b) = false) : a = false ∨ b = false := by cases a <;> cases b <;> simp_all

end HX

namespace HX
open Go Go.Proofs CX
structure V4 (pre : Nat → List (List D) → Prop) (fn : Nat → List (List D) → Nat → Nat → D) (a0 : Rows) (a1_0 : Int) (a1_1 : Int) (a2_0 : Int) (a2_1 : Int) (a3 : Int) (R : Nat → Nat → D) (I0 : Rows → Int → Prop) (m0 : Rows → Int → Nat) : Prop where
  g0 : (100 < (a0.length : Int)) → pre 9 []
  g1 : (100 < (a0.length : Int)) → R 0 0 = D.b (D.boo (fn 9 [] 0 0))
  i0 : (¬ 100 < (a0.length : Int)) → I0 [] 0
  g3 : ∀ x0_0 x0_1, I0 x0_0 x0_1 → (¬ 100 < (a0.length : Int)) → (x0_1 < (a0.length : Int)) → 0 ≤ x0_1
  g4 : ∀ x0_0 x0_1, I0 x0_0 x0_1 → (¬ 100 < (a0.length : Int)) → (x0_1 < (a0.length : Int)) → x0_1 < (a0.length : Int)
  g5 : ∀ x0_0 x0_1, I0 x0_0 x0_1 → (¬ 100 < (a0.length : Int)) → (x0_1 < (a0.length : Int)) → (((Int.toNat x0_1 : Nat) : Int)) < (a0.length : Int)
  g6 : ∀ x0_0 x0_1, I0 x0_0 x0_1 → (¬ 100 < (a0.length : Int)) → (x0_1 < (a0.length : Int)) → pre 11 [[D.i (D.int (gt a0 x0_1.toNat 0)), D.i (D.int (gt a0 x0_1.toNat 1))]]
  g7 : ∀ x0_0 x0_1, I0 x0_0 x0_1 → (¬ 100 < (a0.length : Int)) → (x0_1 < (a0.length : Int)) → (x0_0.length + (List.length ([[D.i (D.int (fn 11 [[D.i (D.int (gt a0 x0_1.toNat 0)), D.i (D.int (gt a0 x0_1.toNat 1))]] 0 0)), D.i (D.int (fn 11 [[D.i (D.int (gt a0 x0_1.toNat 0)), D.i (D.int (gt a0 x0_1.toNat 1))]] 0 1))]] : Rows))) * 16 ≤ 4294967296 ∧ (x0_0.length + (List.length ([[D.i (D.int (fn 11 [[D.i (D.int (gt a0 x0_1.toNat 0)), D.i (D.int (gt a0 x0_1.toNat 1))]] 0 0)), D.i (D.int (fn 11 [[D.i (D.int (gt a0 x0_1.toNat 0)), D.i (D.int (gt a0 x0_1.toNat 1))]] 0 1))]] : Rows))) ≤ 4294967296
  g8 : ∀ x0_0 x0_1, I0 x0_0 x0_1 → (¬ 100 < (a0.length : Int)) → (x0_1 < (a0.length : Int)) → -9223372036854775808 ≤ (x0_1 + 1) ∧ (x0_1 + 1) ≤ 9223372036854775807
  n9 : ∀ x0_0 x0_1, I0 x0_0 x0_1 → (¬ 100 < (a0.length : Int)) → (x0_1 < (a0.length : Int)) → I0 (x0_0 ++ [[D.i (D.int (fn 11 [[D.i (D.int (gt a0 x0_1.toNat 0)), D.i (D.int (gt a0 x0_1.toNat 1))]] 0 0)), D.i (D.int (fn 11 [[D.i (D.int (gt a0 x0_1.toNat 0)), D.i (D.int (gt a0 x0_1.toNat 1))]] 0 1))]]) (x0_1 + 1) ∧ m0 (x0_0 ++ [[D.i (D.int (fn 11 [[D.i (D.int (gt a0 x0_1.toNat 0)), D.i (D.int (gt a0 x0_1.toNat 1))]] 0 0)), D.i (D.int (fn 11 [[D.i (D.int (gt a0 x0_1.toNat 0)), D.i (D.int (gt a0 x0_1.toNat 1))]] 0 1))]]) (x0_1 + 1) < m0 x0_0 x0_1
  g10 : ∀ x0_0 x0_1, I0 x0_0 x0_1 → (¬ 100 < (a0.length : Int)) → (¬ x0_1 < (a0.length : Int)) → pre 20 [[D.l x0_0]]
  g11 : ∀ x0_0 x0_1, I0 x0_0 x0_1 → (¬ 100 < (a0.length : Int)) → (¬ x0_1 < (a0.length : Int)) → pre 21 [[D.l a0]]
  g12 : ∀ x0_0 x0_1, I0 x0_0 x0_1 → (¬ 100 < (a0.length : Int)) → (¬ x0_1 < (a0.length : Int)) → pre 11 [[D.i (D.int (fn 21 [[D.l a0]] 0 0)), D.i (D.int (fn 21 [[D.l a0]] 0 1))]]
  g13 : ∀ x0_0 x0_1, I0 x0_0 x0_1 → (¬ 100 < (a0.length : Int)) → (¬ x0_1 < (a0.length : Int)) → ((¬ (D.int (fn 20 [[D.l x0_0]] 0 0)) = (D.int (fn 11 [[D.i (D.int (fn 21 [[D.l a0]] 0 0)), D.i (D.int (fn 21 [[D.l a0]] 0 1))]] 0 0))) ∨ (¬ (D.int (fn 20 [[D.l x0_0]] 0 1)) = (D.int (fn 11 [[D.i (D.int (fn 21 [[D.l a0]] 0 0)), D.i (D.int (fn 21 [[D.l a0]] 0 1))]] 0 1)))) → R 0 0 = D.b false
  g14 : ∀ x0_0 x0_1, I0 x0_0 x0_1 → (¬ 100 < (a0.length : Int)) → (¬ x0_1 < (a0.length : Int)) → ((D.int (fn 20 [[D.l x0_0]] 0 0)) = (D.int (fn 11 [[D.i (D.int (fn 21 [[D.l a0]] 0 0)), D.i (D.int (fn 21 [[D.l a0]] 0 1))]] 0 0)) ∧ (D.int (fn 20 [[D.l x0_0]] 0 1)) = (D.int (fn 11 [[D.i (D.int (fn 21 [[D.l a0]] 0 0)), D.i (D.int (fn 21 [[D.l a0]] 0 1))]] 0 1))) → (¬ (D.int (fn 20 [[D.l x0_0]] 1 0)) = (D.int (fn 21 [[D.l a0]] 1 0))) → R 0 0 = D.b false
  g15 : ∀ x0_0 x0_1, I0 x0_0 x0_1 → (¬ 100 < (a0.length : Int)) → (¬ x0_1 < (a0.length : Int)) → ((D.int (fn 20 [[D.l x0_0]] 0 0)) = (D.int (fn 11 [[D.i (D.int (fn 21 [[D.l a0]] 0 0)), D.i (D.int (fn 21 [[D.l a0]] 0 1))]] 0 0)) ∧ (D.int (fn 20 [[D.l x0_0]] 0 1)) = (D.int (fn 11 [[D.i (D.int (fn 21 [[D.l a0]] 0 0)), D.i (D.int (fn 21 [[D.l a0]] 0 1))]] 0 1))) → ((D.int (fn 20 [[D.l x0_0]] 1 0)) = (D.int (fn 21 [[D.l a0]] 1 0))) → pre 11 [[D.i a1_0, D.i a1_1]]
  g16 : ∀ x0_0 x0_1, I0 x0_0 x0_1 → (¬ 100 < (a0.length : Int)) → (¬ x0_1 < (a0.length : Int)) → ((D.int (fn 20 [[D.l x0_0]] 0 0)) = (D.int (fn 11 [[D.i (D.int (fn 21 [[D.l a0]] 0 0)), D.i (D.int (fn 21 [[D.l a0]] 0 1))]] 0 0)) ∧ (D.int (fn 20 [[D.l x0_0]] 0 1)) = (D.int (fn 11 [[D.i (D.int (fn 21 [[D.l a0]] 0 0)), D.i (D.int (fn 21 [[D.l a0]] 0 1))]] 0 1))) → ((D.int (fn 20 [[D.l x0_0]] 1 0)) = (D.int (fn 21 [[D.l a0]] 1 0))) → pre 11 [[D.i a2_0, D.i a2_1]]
  g17 : ∀ x0_0 x0_1, I0 x0_0 x0_1 → (¬ 100 < (a0.length : Int)) → (¬ x0_1 < (a0.length : Int)) → ((D.int (fn 20 [[D.l x0_0]] 0 0)) = (D.int (fn 11 [[D.i (D.int (fn 21 [[D.l a0]] 0 0)), D.i (D.int (fn 21 [[D.l a0]] 0 1))]] 0 0)) ∧ (D.int (fn 20 [[D.l x0_0]] 0 1)) = (D.int (fn 11 [[D.i (D.int (fn 21 [[D.l a0]] 0 0)), D.i (D.int (fn 21 [[D.l a0]] 0 1))]] 0 1))) → ((D.int (fn 20 [[D.l x0_0]] 1 0)) = (D.int (fn 21 [[D.l a0]] 1 0))) → pre 22 [[D.i (D.int (fn 11 [[D.i a1_0, D.i a1_1]] 0 0)), D.i (D.int (fn 11 [[D.i a1_0, D.i a1_1]] 0 1))], [D.i (D.int (fn 11 [[D.i a2_0, D.i a2_1]] 0 0)), D.i (D.int (fn 11 [[D.i a2_0, D.i a2_1]] 0 1))]]
  g18 : ∀ x0_0 x0_1, I0 x0_0 x0_1 → (¬ 100 < (a0.length : Int)) → (¬ x0_1 < (a0.length : Int)) → ((D.int (fn 20 [[D.l x0_0]] 0 0)) = (D.int (fn 11 [[D.i (D.int (fn 21 [[D.l a0]] 0 0)), D.i (D.int (fn 21 [[D.l a0]] 0 1))]] 0 0)) ∧ (D.int (fn 20 [[D.l x0_0]] 0 1)) = (D.int (fn 11 [[D.i (D.int (fn 21 [[D.l a0]] 0 0)), D.i (D.int (fn 21 [[D.l a0]] 0 1))]] 0 1))) → ((D.int (fn 20 [[D.l x0_0]] 1 0)) = (D.int (fn 21 [[D.l a0]] 1 0))) → pre 23 [[D.i a1_0, D.i a1_1], [D.i a2_0, D.i a2_1]]
  g19 : ∀ x0_0 x0_1, I0 x0_0 x0_1 → (¬ 100 < (a0.length : Int)) → (¬ x0_1 < (a0.length : Int)) → ((D.int (fn 20 [[D.l x0_0]] 0 0)) = (D.int (fn 11 [[D.i (D.int (fn 21 [[D.l a0]] 0 0)), D.i (D.int (fn 21 [[D.l a0]] 0 1))]] 0 0)) ∧ (D.int (fn 20 [[D.l x0_0]] 0 1)) = (D.int (fn 11 [[D.i (D.int (fn 21 [[D.l a0]] 0 0)), D.i (D.int (fn 21 [[D.l a0]] 0 1))]] 0 1))) → ((D.int (fn 20 [[D.l x0_0]] 1 0)) = (D.int (fn 21 [[D.l a0]] 1 0))) → (¬ (D.int (fn 22 [[D.i (D.int (fn 11 [[D.i a1_0, D.i a1_1]] 0 0)), D.i (D.int (fn 11 [[D.i a1_0, D.i a1_1]] 0 1))], [D.i (D.int (fn 11 [[D.i a2_0, D.i a2_1]] 0 0)), D.i (D.int (fn 11 [[D.i a2_0, D.i a2_1]] 0 1))]] 0 0)) = (D.int (fn 23 [[D.i a1_0, D.i a1_1], [D.i a2_0, D.i a2_1]] 0 0))) → R 0 0 = D.b false
  g20 : ∀ x0_0 x0_1, I0 x0_0 x0_1 → (¬ 100 < (a0.length : Int)) → (¬ x0_1 < (a0.length : Int)) → ((D.int (fn 20 [[D.l x0_0]] 0 0)) = (D.int (fn 11 [[D.i (D.int (fn 21 [[D.l a0]] 0 0)), D.i (D.int (fn 21 [[D.l a0]] 0 1))]] 0 0)) ∧ (D.int (fn 20 [[D.l x0_0]] 0 1)) = (D.int (fn 11 [[D.i (D.int (fn 21 [[D.l a0]] 0 0)), D.i (D.int (fn 21 [[D.l a0]] 0 1))]] 0 1))) → ((D.int (fn 20 [[D.l x0_0]] 1 0)) = (D.int (fn 21 [[D.l a0]] 1 0))) → ((D.int (fn 22 [[D.i (D.int (fn 11 [[D.i a1_0, D.i a1_1]] 0 0)), D.i (D.int (fn 11 [[D.i a1_0, D.i a1_1]] 0 1))], [D.i (D.int (fn 11 [[D.i a2_0, D.i a2_1]] 0 0)), D.i (D.int (fn 11 [[D.i a2_0, D.i a2_1]] 0 1))]] 0 0)) = (D.int (fn 23 [[D.i a1_0, D.i a1_1], [D.i a2_0, D.i a2_1]] 0 0))) → (¬ (D.int (fn 22 [[D.i (D.int (fn 11 [[D.i a1_0, D.i a1_1]] 0 0)), D.i (D.int (fn 11 [[D.i a1_0, D.i a1_1]] 0 1))], [D.i (D.int (fn 11 [[D.i a2_0, D.i a2_1]] 0 0)), D.i (D.int (fn 11 [[D.i a2_0, D.i a2_1]] 0 1))]] 1 0)) = (D.int (fn 23 [[D.i a1_0, D.i a1_1], [D.i a2_0, D.i a2_1]] 1 0))) → R 0 0 = D.b false
  g21 : ∀ x0_0 x0_1, I0 x0_0 x0_1 → (¬ 100 < (a0.length : Int)) → (¬ x0_1 < (a0.length : Int)) → ((D.int (fn 20 [[D.l x0_0]] 0 0)) = (D.int (fn 11 [[D.i (D.int (fn 21 [[D.l a0]] 0 0)), D.i (D.int (fn 21 [[D.l a0]] 0 1))]] 0 0)) ∧ (D.int (fn 20 [[D.l x0_0]] 0 1)) = (D.int (fn 11 [[D.i (D.int (fn 21 [[D.l a0]] 0 0)), D.i (D.int (fn 21 [[D.l a0]] 0 1))]] 0 1))) → ((D.int (fn 20 [[D.l x0_0]] 1 0)) = (D.int (fn 21 [[D.l a0]] 1 0))) → ((D.int (fn 22 [[D.i (D.int (fn 11 [[D.i a1_0, D.i a1_1]] 0 0)), D.i (D.int (fn 11 [[D.i a1_0, D.i a1_1]] 0 1))], [D.i (D.int (fn 11 [[D.i a2_0, D.i a2_1]] 0 0)), D.i (D.int (fn 11 [[D.i a2_0, D.i a2_1]] 0 1))]] 0 0)) = (D.int (fn 23 [[D.i a1_0, D.i a1_1], [D.i a2_0, D.i a2_1]] 0 0))) → ((D.int (fn 22 [[D.i (D.int (fn 11 [[D.i a1_0, D.i a1_1]] 0 0)), D.i (D.int (fn 11 [[D.i a1_0, D.i a1_1]] 0 1))], [D.i (D.int (fn 11 [[D.i a2_0, D.i a2_1]] 0 0)), D.i (D.int (fn 11 [[D.i a2_0, D.i a2_1]] 0 1))]] 1 0)) = (D.int (fn 23 [[D.i a1_0, D.i a1_1], [D.i a2_0, D.i a2_1]] 1 0))) → (¬ (D.int (fn 22 [[D.i (D.int (fn 11 [[D.i a1_0, D.i a1_1]] 0 0)), D.i (D.int (fn 11 [[D.i a1_0, D.i a1_1]] 0 1))], [D.i (D.int (fn 11 [[D.i a2_0, D.i a2_1]] 0 0)), D.i (D.int (fn 11 [[D.i a2_0, D.i a2_1]] 0 1))]] 2 0)) = (D.int (fn 23 [[D.i a1_0, D.i a1_1], [D.i a2_0, D.i a2_1]] 2 0))) → R 0 0 = D.b false
  g22 : ∀ x0_0 x0_1, I0 x0_0 x0_1 → (¬ 100 < (a0.length : Int)) → (¬ x0_1 < (a0.length : Int)) → ((D.int (fn 20 [[D.l x0_0]] 0 0)) = (D.int (fn 11 [[D.i (D.int (fn 21 [[D.l a0]] 0 0)), D.i (D.int (fn 21 [[D.l a0]] 0 1))]] 0 0)) ∧ (D.int (fn 20 [[D.l x0_0]] 0 1)) = (D.int (fn 11 [[D.i (D.int (fn 21 [[D.l a0]] 0 0)), D.i (D.int (fn 21 [[D.l a0]] 0 1))]] 0 1))) → ((D.int (fn 20 [[D.l x0_0]] 1 0)) = (D.int (fn 21 [[D.l a0]] 1 0))) → ((D.int (fn 22 [[D.i (D.int (fn 11 [[D.i a1_0, D.i a1_1]] 0 0)), D.i (D.int (fn 11 [[D.i a1_0, D.i a1_1]] 0 1))], [D.i (D.int (fn 11 [[D.i a2_0, D.i a2_1]] 0 0)), D.i (D.int (fn 11 [[D.i a2_0, D.i a2_1]] 0 1))]] 0 0)) = (D.int (fn 23 [[D.i a1_0, D.i a1_1], [D.i a2_0, D.i a2_1]] 0 0))) → ((D.int (fn 22 [[D.i (D.int (fn 11 [[D.i a1_0, D.i a1_1]] 0 0)), D.i (D.int (fn 11 [[D.i a1_0, D.i a1_1]] 0 1))], [D.i (D.int (fn 11 [[D.i a2_0, D.i a2_1]] 0 0)), D.i (D.int (fn 11 [[D.i a2_0, D.i a2_1]] 0 1))]] 1 0)) = (D.int (fn 23 [[D.i a1_0, D.i a1_1], [D.i a2_0, D.i a2_1]] 1 0))) → ((D.int (fn 22 [[D.i (D.int (fn 11 [[D.i a1_0, D.i a1_1]] 0 0)), D.i (D.int (fn 11 [[D.i a1_0, D.i a1_1]] 0 1))], [D.i (D.int (fn 11 [[D.i a2_0, D.i a2_1]] 0 0)), D.i (D.int (fn 11 [[D.i a2_0, D.i a2_1]] 0 1))]] 2 0)) = (D.int (fn 23 [[D.i a1_0, D.i a1_1], [D.i a2_0, D.i a2_1]] 2 0))) → pre 11 [[D.i a1_0, D.i a1_1]]
  g23 : ∀ x0_0 x0_1, I0 x0_0 x0_1 → (¬ 100 < (a0.length : Int)) → (¬ x0_1 < (a0.length : Int)) → ((D.int (fn 20 [[D.l x0_0]] 0 0)) = (D.int (fn 11 [[D.i (D.int (fn 21 [[D.l a0]] 0 0)), D.i (D.int (fn 21 [[D.l a0]] 0 1))]] 0 0)) ∧ (D.int (fn 20 [[D.l x0_0]] 0 1)) = (D.int (fn 11 [[D.i (D.int (fn 21 [[D.l a0]] 0 0)), D.i (D.int (fn 21 [[D.l a0]] 0 1))]] 0 1))) → ((D.int (fn 20 [[D.l x0_0]] 1 0)) = (D.int (fn 21 [[D.l a0]] 1 0))) → ((D.int (fn 22 [[D.i (D.int (fn 11 [[D.i a1_0, D.i a1_1]] 0 0)), D.i (D.int (fn 11 [[D.i a1_0, D.i a1_1]] 0 1))], [D.i (D.int (fn 11 [[D.i a2_0, D.i a2_1]] 0 0)), D.i (D.int (fn 11 [[D.i a2_0, D.i a2_1]] 0 1))]] 0 0)) = (D.int (fn 23 [[D.i a1_0, D.i a1_1], [D.i a2_0, D.i a2_1]] 0 0))) → ((D.int (fn 22 [[D.i (D.int (fn 11 [[D.i a1_0, D.i a1_1]] 0 0)), D.i (D.int (fn 11 [[D.i a1_0, D.i a1_1]] 0 1))], [D.i (D.int (fn 11 [[D.i a2_0, D.i a2_1]] 0 0)), D.i (D.int (fn 11 [[D.i a2_0, D.i a2_1]] 0 1))]] 1 0)) = (D.int (fn 23 [[D.i a1_0, D.i a1_1], [D.i a2_0, D.i a2_1]] 1 0))) → ((D.int (fn 22 [[D.i (D.int (fn 11 [[D.i a1_0, D.i a1_1]] 0 0)), D.i (D.int (fn 11 [[D.i a1_0, D.i a1_1]] 0 1))], [D.i (D.int (fn 11 [[D.i a2_0, D.i a2_1]] 0 0)), D.i (D.int (fn 11 [[D.i a2_0, D.i a2_1]] 0 1))]] 2 0)) = (D.int (fn 23 [[D.i a1_0, D.i a1_1], [D.i a2_0, D.i a2_1]] 2 0))) → pre 24 [[D.i (D.int (fn 11 [[D.i a1_0, D.i a1_1]] 0 0)), D.i (D.int (fn 11 [[D.i a1_0, D.i a1_1]] 0 1))], [D.i a3]]
  g24 : ∀ x0_0 x0_1, I0 x0_0 x0_1 → (¬ 100 < (a0.length : Int)) → (¬ x0_1 < (a0.length : Int)) → ((D.int (fn 20 [[D.l x0_0]] 0 0)) = (D.int (fn 11 [[D.i (D.int (fn 21 [[D.l a0]] 0 0)), D.i (D.int (fn 21 [[D.l a0]] 0 1))]] 0 0)) ∧ (D.int (fn 20 [[D.l x0_0]] 0 1)) = (D.int (fn 11 [[D.i (D.int (fn 21 [[D.l a0]] 0 0)), D.i (D.int (fn 21 [[D.l a0]] 0 1))]] 0 1))) → ((D.int (fn 20 [[D.l x0_0]] 1 0)) = (D.int (fn 21 [[D.l a0]] 1 0))) → ((D.int (fn 22 [[D.i (D.int (fn 11 [[D.i a1_0, D.i a1_1]] 0 0)), D.i (D.int (fn 11 [[D.i a1_0, D.i a1_1]] 0 1))], [D.i (D.int (fn 11 [[D.i a2_0, D.i a2_1]] 0 0)), D.i (D.int (fn 11 [[D.i a2_0, D.i a2_1]] 0 1))]] 0 0)) = (D.int (fn 23 [[D.i a1_0, D.i a1_1], [D.i a2_0, D.i a2_1]] 0 0))) → ((D.int (fn 22 [[D.i (D.int (fn 11 [[D.i a1_0, D.i a1_1]] 0 0)), D.i (D.int (fn 11 [[D.i a1_0, D.i a1_1]] 0 1))], [D.i (D.int (fn 11 [[D.i a2_0, D.i a2_1]] 0 0)), D.i (D.int (fn 11 [[D.i a2_0, D.i a2_1]] 0 1))]] 1 0)) = (D.int (fn 23 [[D.i a1_0, D.i a1_1], [D.i a2_0, D.i a2_1]] 1 0))) → ((D.int (fn 22 [[D.i (D.int (fn 11 [[D.i a1_0, D.i a1_1]] 0 0)), D.i (D.int (fn 11 [[D.i a1_0, D.i a1_1]] 0 1))], [D.i (D.int (fn 11 [[D.i a2_0, D.i a2_1]] 0 0)), D.i (D.int (fn 11 [[D.i a2_0, D.i a2_1]] 0 1))]] 2 0)) = (D.int (fn 23 [[D.i a1_0, D.i a1_1], [D.i a2_0, D.i a2_1]] 2 0))) → pre 25 [[D.i a1_0, D.i a1_1], [D.i a3]]
  g25 : ∀ x0_0 x0_1, I0 x0_0 x0_1 → (¬ 100 < (a0.length : Int)) → (¬ x0_1 < (a0.length : Int)) → ((D.int (fn 20 [[D.l x0_0]] 0 0)) = (D.int (fn 11 [[D.i (D.int (fn 21 [[D.l a0]] 0 0)), D.i (D.int (fn 21 [[D.l a0]] 0 1))]] 0 0)) ∧ (D.int (fn 20 [[D.l x0_0]] 0 1)) = (D.int (fn 11 [[D.i (D.int (fn 21 [[D.l a0]] 0 0)), D.i (D.int (fn 21 [[D.l a0]] 0 1))]] 0 1))) → ((D.int (fn 20 [[D.l x0_0]] 1 0)) = (D.int (fn 21 [[D.l a0]] 1 0))) → ((D.int (fn 22 [[D.i (D.int (fn 11 [[D.i a1_0, D.i a1_1]] 0 0)), D.i (D.int (fn 11 [[D.i a1_0, D.i a1_1]] 0 1))], [D.i (D.int (fn 11 [[D.i a2_0, D.i a2_1]] 0 0)), D.i (D.int (fn 11 [[D.i a2_0, D.i a2_1]] 0 1))]] 0 0)) = (D.int (fn 23 [[D.i a1_0, D.i a1_1], [D.i a2_0, D.i a2_1]] 0 0))) → ((D.int (fn 22 [[D.i (D.int (fn 11 [[D.i a1_0, D.i a1_1]] 0 0)), D.i (D.int (fn 11 [[D.i a1_0, D.i a1_1]] 0 1))], [D.i (D.int (fn 11 [[D.i a2_0, D.i a2_1]] 0 0)), D.i (D.int (fn 11 [[D.i a2_0, D.i a2_1]] 0 1))]] 1 0)) = (D.int (fn 23 [[D.i a1_0, D.i a1_1], [D.i a2_0, D.i a2_1]] 1 0))) → ((D.int (fn 22 [[D.i (D.int (fn 11 [[D.i a1_0, D.i a1_1]] 0 0)), D.i (D.int (fn 11 [[D.i a1_0, D.i a1_1]] 0 1))], [D.i (D.int (fn 11 [[D.i a2_0, D.i a2_1]] 0 0)), D.i (D.int (fn 11 [[D.i a2_0, D.i a2_1]] 0 1))]] 2 0)) = (D.int (fn 23 [[D.i a1_0, D.i a1_1], [D.i a2_0, D.i a2_1]] 2 0))) → (¬ (D.int (fn 25 [[D.i a1_0, D.i a1_1], [D.i a3]] 1 0)) = 0) → pre 11 [[D.i 0, D.i 0]]
  g26 : ∀ x0_0 x0_1, I0 x0_0 x0_1 → (¬ 100 < (a0.length : Int)) → (¬ x0_1 < (a0.length : Int)) → ((D.int (fn 20 [[D.l x0_0]] 0 0)) = (D.int (fn 11 [[D.i (D.int (fn 21 [[D.l a0]] 0 0)), D.i (D.int (fn 21 [[D.l a0]] 0 1))]] 0 0)) ∧ (D.int (fn 20 [[D.l x0_0]] 0 1)) = (D.int (fn 11 [[D.i (D.int (fn 21 [[D.l a0]] 0 0)), D.i (D.int (fn 21 [[D.l a0]] 0 1))]] 0 1))) → ((D.int (fn 20 [[D.l x0_0]] 1 0)) = (D.int (fn 21 [[D.l a0]] 1 0))) → ((D.int (fn 22 [[D.i (D.int (fn 11 [[D.i a1_0, D.i a1_1]] 0 0)), D.i (D.int (fn 11 [[D.i a1_0, D.i a1_1]] 0 1))], [D.i (D.int (fn 11 [[D.i a2_0, D.i a2_1]] 0 0)), D.i (D.int (fn 11 [[D.i a2_0, D.i a2_1]] 0 1))]] 0 0)) = (D.int (fn 23 [[D.i a1_0, D.i a1_1], [D.i a2_0, D.i a2_1]] 0 0))) → ((D.int (fn 22 [[D.i (D.int (fn 11 [[D.i a1_0, D.i a1_1]] 0 0)), D.i (D.int (fn 11 [[D.i a1_0, D.i a1_1]] 0 1))], [D.i (D.int (fn 11 [[D.i a2_0, D.i a2_1]] 0 0)), D.i (D.int (fn 11 [[D.i a2_0, D.i a2_1]] 0 1))]] 1 0)) = (D.int (fn 23 [[D.i a1_0, D.i a1_1], [D.i a2_0, D.i a2_1]] 1 0))) → ((D.int (fn 22 [[D.i (D.int (fn 11 [[D.i a1_0, D.i a1_1]] 0 0)), D.i (D.int (fn 11 [[D.i a1_0, D.i a1_1]] 0 1))], [D.i (D.int (fn 11 [[D.i a2_0, D.i a2_1]] 0 0)), D.i (D.int (fn 11 [[D.i a2_0, D.i a2_1]] 0 1))]] 2 0)) = (D.int (fn 23 [[D.i a1_0, D.i a1_1], [D.i a2_0, D.i a2_1]] 2 0))) → (¬ (D.int (fn 25 [[D.i a1_0, D.i a1_1], [D.i a3]] 1 0)) = 0) → ((D.int (fn 24 [[D.i (D.int (fn 11 [[D.i a1_0, D.i a1_1]] 0 0)), D.i (D.int (fn 11 [[D.i a1_0, D.i a1_1]] 0 1))], [D.i a3]] 0 0)) = (D.int (fn 11 [[D.i 0, D.i 0]] 0 0)) ∧ (D.int (fn 24 [[D.i (D.int (fn 11 [[D.i a1_0, D.i a1_1]] 0 0)), D.i (D.int (fn 11 [[D.i a1_0, D.i a1_1]] 0 1))], [D.i a3]] 0 1)) = (D.int (fn 11 [[D.i 0, D.i 0]] 0 1))) → ((D.int (fn 24 [[D.i (D.int (fn 11 [[D.i a1_0, D.i a1_1]] 0 0)), D.i (D.int (fn 11 [[D.i a1_0, D.i a1_1]] 0 1))], [D.i a3]] 1 0)) = (D.int (fn 25 [[D.i a1_0, D.i a1_1], [D.i a3]] 1 0))) → pre 9 []
  g27 : ∀ x0_0 x0_1, I0 x0_0 x0_1 → (¬ 100 < (a0.length : Int)) → (¬ x0_1 < (a0.length : Int)) → ((D.int (fn 20 [[D.l x0_0]] 0 0)) = (D.int (fn 11 [[D.i (D.int (fn 21 [[D.l a0]] 0 0)), D.i (D.int (fn 21 [[D.l a0]] 0 1))]] 0 0)) ∧ (D.int (fn 20 [[D.l x0_0]] 0 1)) = (D.int (fn 11 [[D.i (D.int (fn 21 [[D.l a0]] 0 0)), D.i (D.int (fn 21 [[D.l a0]] 0 1))]] 0 1))) → ((D.int (fn 20 [[D.l x0_0]] 1 0)) = (D.int (fn 21 [[D.l a0]] 1 0))) → ((D.int (fn 22 [[D.i (D.int (fn 11 [[D.i a1_0, D.i a1_1]] 0 0)), D.i (D.int (fn 11 [[D.i a1_0, D.i a1_1]] 0 1))], [D.i (D.int (fn 11 [[D.i a2_0, D.i a2_1]] 0 0)), D.i (D.int (fn 11 [[D.i a2_0, D.i a2_1]] 0 1))]] 0 0)) = (D.int (fn 23 [[D.i a1_0, D.i a1_1], [D.i a2_0, D.i a2_1]] 0 0))) → ((D.int (fn 22 [[D.i (D.int (fn 11 [[D.i a1_0, D.i a1_1]] 0 0)), D.i (D.int (fn 11 [[D.i a1_0, D.i a1_1]] 0 1))], [D.i (D.int (fn 11 [[D.i a2_0, D.i a2_1]] 0 0)), D.i (D.int (fn 11 [[D.i a2_0, D.i a2_1]] 0 1))]] 1 0)) = (D.int (fn 23 [[D.i a1_0, D.i a1_1], [D.i a2_0, D.i a2_1]] 1 0))) → ((D.int (fn 22 [[D.i (D.int (fn 11 [[D.i a1_0, D.i a1_1]] 0 0)), D.i (D.int (fn 11 [[D.i a1_0, D.i a1_1]] 0 1))], [D.i (D.int (fn 11 [[D.i a2_0, D.i a2_1]] 0 0)), D.i (D.int (fn 11 [[D.i a2_0, D.i a2_1]] 0 1))]] 2 0)) = (D.int (fn 23 [[D.i a1_0, D.i a1_1], [D.i a2_0, D.i a2_1]] 2 0))) → (¬ (D.int (fn 25 [[D.i a1_0, D.i a1_1], [D.i a3]] 1 0)) = 0) → ((D.int (fn 24 [[D.i (D.int (fn 11 [[D.i a1_0, D.i a1_1]] 0 0)), D.i (D.int (fn 11 [[D.i a1_0, D.i a1_1]] 0 1))], [D.i a3]] 0 0)) = (D.int (fn 11 [[D.i 0, D.i 0]] 0 0)) ∧ (D.int (fn 24 [[D.i (D.int (fn 11 [[D.i a1_0, D.i a1_1]] 0 0)), D.i (D.int (fn 11 [[D.i a1_0, D.i a1_1]] 0 1))], [D.i a3]] 0 1)) = (D.int (fn 11 [[D.i 0, D.i 0]] 0 1))) → ((D.int (fn 24 [[D.i (D.int (fn 11 [[D.i a1_0, D.i a1_1]] 0 0)), D.i (D.int (fn 11 [[D.i a1_0, D.i a1_1]] 0 1))], [D.i a3]] 1 0)) = (D.int (fn 25 [[D.i a1_0, D.i a1_1], [D.i a3]] 1 0))) → R 0 0 = D.b (D.boo (fn 9 [] 0 0))
  g28 : ∀ x0_0 x0_1, I0 x0_0 x0_1 → (¬ 100 < (a0.length : Int)) → (¬ x0_1 < (a0.length : Int)) → ((D.int (fn 20 [[D.l x0_0]] 0 0)) = (D.int (fn 11 [[D.i (D.int (fn 21 [[D.l a0]] 0 0)), D.i (D.int (fn 21 [[D.l a0]] 0 1))]] 0 0)) ∧ (D.int (fn 20 [[D.l x0_0]] 0 1)) = (D.int (fn 11 [[D.i (D.int (fn 21 [[D.l a0]] 0 0)), D.i (D.int (fn 21 [[D.l a0]] 0 1))]] 0 1))) → ((D.int (fn 20 [[D.l x0_0]] 1 0)) = (D.int (fn 21 [[D.l a0]] 1 0))) → ((D.int (fn 22 [[D.i (D.int (fn 11 [[D.i a1_0, D.i a1_1]] 0 0)), D.i (D.int (fn 11 [[D.i a1_0, D.i a1_1]] 0 1))], [D.i (D.int (fn 11 [[D.i a2_0, D.i a2_1]] 0 0)), D.i (D.int (fn 11 [[D.i a2_0, D.i a2_1]] 0 1))]] 0 0)) = (D.int (fn 23 [[D.i a1_0, D.i a1_1], [D.i a2_0, D.i a2_1]] 0 0))) → ((D.int (fn 22 [[D.i (D.int (fn 11 [[D.i a1_0, D.i a1_1]] 0 0)), D.i (D.int (fn 11 [[D.i a1_0, D.i a1_1]] 0 1))], [D.i (D.int (fn 11 [[D.i a2_0, D.i a2_1]] 0 0)), D.i (D.int (fn 11 [[D.i a2_0, D.i a2_1]] 0 1))]] 1 0)) = (D.int (fn 23 [[D.i a1_0, D.i a1_1], [D.i a2_0, D.i a2_1]] 1 0))) → ((D.int (fn 22 [[D.i (D.int (fn 11 [[D.i a1_0, D.i a1_1]] 0 0)), D.i (D.int (fn 11 [[D.i a1_0, D.i a1_1]] 0 1))], [D.i (D.int (fn 11 [[D.i a2_0, D.i a2_1]] 0 0)), D.i (D.int (fn 11 [[D.i a2_0, D.i a2_1]] 0 1))]] 2 0)) = (D.int (fn 23 [[D.i a1_0, D.i a1_1], [D.i a2_0, D.i a2_1]] 2 0))) → (¬ (D.int (fn 25 [[D.i a1_0, D.i a1_1], [D.i a3]] 1 0)) = 0) → ((D.int (fn 24 [[D.i (D.int (fn 11 [[D.i a1_0, D.i a1_1]] 0 0)), D.i (D.int (fn 11 [[D.i a1_0, D.i a1_1]] 0 1))], [D.i a3]] 0 0)) = (D.int (fn 11 [[D.i 0, D.i 0]] 0 0)) ∧ (D.int (fn 24 [[D.i (D.int (fn 11 [[D.i a1_0, D.i a1_1]] 0 0)), D.i (D.int (fn 11 [[D.i a1_0, D.i a1_1]] 0 1))], [D.i a3]] 0 1)) = (D.int (fn 11 [[D.i 0, D.i 0]] 0 1))) → (¬ (D.int (fn 24 [[D.i (D.int (fn 11 [[D.i a1_0, D.i a1_1]] 0 0)), D.i (D.int (fn 11 [[D.i a1_0, D.i a1_1]] 0 1))], [D.i a3]] 1 0)) = (D.int (fn 25 [[D.i a1_0, D.i a1_1], [D.i a3]] 1 0))) → R 0 0 = D.b false
  g29 : ∀ x0_0 x0_1, I0 x0_0 x0_1 → (¬ 100 < (a0.length : Int)) → (¬ x0_1 < (a0.length : Int)) → ((D.int (fn 20 [[D.l x0_0]] 0 0)) = (D.int (fn 11 [[D.i (D.int (fn 21 [[D.l a0]] 0 0)), D.i (D.int (fn 21 [[D.l a0]] 0 1))]] 0 0)) ∧ (D.int (fn 20 [[D.l x0_0]] 0 1)) = (D.int (fn 11 [[D.i (D.int (fn 21 [[D.l a0]] 0 0)), D.i (D.int (fn 21 [[D.l a0]] 0 1))]] 0 1))) → ((D.int (fn 20 [[D.l x0_0]] 1 0)) = (D.int (fn 21 [[D.l a0]] 1 0))) → ((D.int (fn 22 [[D.i (D.int (fn 11 [[D.i a1_0, D.i a1_1]] 0 0)), D.i (D.int (fn 11 [[D.i a1_0, D.i a1_1]] 0 1))], [D.i (D.int (fn 11 [[D.i a2_0, D.i a2_1]] 0 0)), D.i (D.int (fn 11 [[D.i a2_0, D.i a2_1]] 0 1))]] 0 0)) = (D.int (fn 23 [[D.i a1_0, D.i a1_1], [D.i a2_0, D.i a2_1]] 0 0))) → ((D.int (fn 22 [[D.i (D.int (fn 11 [[D.i a1_0, D.i a1_1]] 0 0)), D.i (D.int (fn 11 [[D.i a1_0, D.i a1_1]] 0 1))], [D.i (D.int (fn 11 [[D.i a2_0, D.i a2_1]] 0 0)), D.i (D.int (fn 11 [[D.i a2_0, D.i a2_1]] 0 1))]] 1 0)) = (D.int (fn 23 [[D.i a1_0, D.i a1_1], [D.i a2_0, D.i a2_1]] 1 0))) → ((D.int (fn 22 [[D.i (D.int (fn 11 [[D.i a1_0, D.i a1_1]] 0 0)), D.i (D.int (fn 11 [[D.i a1_0, D.i a1_1]] 0 1))], [D.i (D.int (fn 11 [[D.i a2_0, D.i a2_1]] 0 0)), D.i (D.int (fn 11 [[D.i a2_0, D.i a2_1]] 0 1))]] 2 0)) = (D.int (fn 23 [[D.i a1_0, D.i a1_1], [D.i a2_0, D.i a2_1]] 2 0))) → (¬ (D.int (fn 25 [[D.i a1_0, D.i a1_1], [D.i a3]] 1 0)) = 0) → ((¬ (D.int (fn 24 [[D.i (D.int (fn 11 [[D.i a1_0, D.i a1_1]] 0 0)), D.i (D.int (fn 11 [[D.i a1_0, D.i a1_1]] 0 1))], [D.i a3]] 0 0)) = (D.int (fn 11 [[D.i 0, D.i 0]] 0 0))) ∨ (¬ (D.int (fn 24 [[D.i (D.int (fn 11 [[D.i a1_0, D.i a1_1]] 0 0)), D.i (D.int (fn 11 [[D.i a1_0, D.i a1_1]] 0 1))], [D.i a3]] 0 1)) = (D.int (fn 11 [[D.i 0, D.i 0]] 0 1)))) → R 0 0 = D.b false
  g30 : ∀ x0_0 x0_1, I0 x0_0 x0_1 → (¬ 100 < (a0.length : Int)) → (¬ x0_1 < (a0.length : Int)) → ((D.int (fn 20 [[D.l x0_0]] 0 0)) = (D.int (fn 11 [[D.i (D.int (fn 21 [[D.l a0]] 0 0)), D.i (D.int (fn 21 [[D.l a0]] 0 1))]] 0 0)) ∧ (D.int (fn 20 [[D.l x0_0]] 0 1)) = (D.int (fn 11 [[D.i (D.int (fn 21 [[D.l a0]] 0 0)), D.i (D.int (fn 21 [[D.l a0]] 0 1))]] 0 1))) → ((D.int (fn 20 [[D.l x0_0]] 1 0)) = (D.int (fn 21 [[D.l a0]] 1 0))) → ((D.int (fn 22 [[D.i (D.int (fn 11 [[D.i a1_0, D.i a1_1]] 0 0)), D.i (D.int (fn 11 [[D.i a1_0, D.i a1_1]] 0 1))], [D.i (D.int (fn 11 [[D.i a2_0, D.i a2_1]] 0 0)), D.i (D.int (fn 11 [[D.i a2_0, D.i a2_1]] 0 1))]] 0 0)) = (D.int (fn 23 [[D.i a1_0, D.i a1_1], [D.i a2_0, D.i a2_1]] 0 0))) → ((D.int (fn 22 [[D.i (D.int (fn 11 [[D.i a1_0, D.i a1_1]] 0 0)), D.i (D.int (fn 11 [[D.i a1_0, D.i a1_1]] 0 1))], [D.i (D.int (fn 11 [[D.i a2_0, D.i a2_1]] 0 0)), D.i (D.int (fn 11 [[D.i a2_0, D.i a2_1]] 0 1))]] 1 0)) = (D.int (fn 23 [[D.i a1_0, D.i a1_1], [D.i a2_0, D.i a2_1]] 1 0))) → ((D.int (fn 22 [[D.i (D.int (fn 11 [[D.i a1_0, D.i a1_1]] 0 0)), D.i (D.int (fn 11 [[D.i a1_0, D.i a1_1]] 0 1))], [D.i (D.int (fn 11 [[D.i a2_0, D.i a2_1]] 0 0)), D.i (D.int (fn 11 [[D.i a2_0, D.i a2_1]] 0 1))]] 2 0)) = (D.int (fn 23 [[D.i a1_0, D.i a1_1], [D.i a2_0, D.i a2_1]] 2 0))) → ((D.int (fn 25 [[D.i a1_0, D.i a1_1], [D.i a3]] 1 0)) = 0) → pre 11 [[D.i (D.int (fn 25 [[D.i a1_0, D.i a1_1], [D.i a3]] 0 0)), D.i (D.int (fn 25 [[D.i a1_0, D.i a1_1], [D.i a3]] 0 1))]]
  g31 : ∀ x0_0 x0_1, I0 x0_0 x0_1 → (¬ 100 < (a0.length : Int)) → (¬ x0_1 < (a0.length : Int)) → ((D.int (fn 20 [[D.l x0_0]] 0 0)) = (D.int (fn 11 [[D.i (D.int (fn 21 [[D.l a0]] 0 0)), D.i (D.int (fn 21 [[D.l a0]] 0 1))]] 0 0)) ∧ (D.int (fn 20 [[D.l x0_0]] 0 1)) = (D.int (fn 11 [[D.i (D.int (fn 21 [[D.l a0]] 0 0)), D.i (D.int (fn 21 [[D.l a0]] 0 1))]] 0 1))) → ((D.int (fn 20 [[D.l x0_0]] 1 0)) = (D.int (fn 21 [[D.l a0]] 1 0))) → ((D.int (fn 22 [[D.i (D.int (fn 11 [[D.i a1_0, D.i a1_1]] 0 0)), D.i (D.int (fn 11 [[D.i a1_0, D.i a1_1]] 0 1))], [D.i (D.int (fn 11 [[D.i a2_0, D.i a2_1]] 0 0)), D.i (D.int (fn 11 [[D.i a2_0, D.i a2_1]] 0 1))]] 0 0)) = (D.int (fn 23 [[D.i a1_0, D.i a1_1], [D.i a2_0, D.i a2_1]] 0 0))) → ((D.int (fn 22 [[D.i (D.int (fn 11 [[D.i a1_0, D.i a1_1]] 0 0)), D.i (D.int (fn 11 [[D.i a1_0, D.i a1_1]] 0 1))], [D.i (D.int (fn 11 [[D.i a2_0, D.i a2_1]] 0 0)), D.i (D.int (fn 11 [[D.i a2_0, D.i a2_1]] 0 1))]] 1 0)) = (D.int (fn 23 [[D.i a1_0, D.i a1_1], [D.i a2_0, D.i a2_1]] 1 0))) → ((D.int (fn 22 [[D.i (D.int (fn 11 [[D.i a1_0, D.i a1_1]] 0 0)), D.i (D.int (fn 11 [[D.i a1_0, D.i a1_1]] 0 1))], [D.i (D.int (fn 11 [[D.i a2_0, D.i a2_1]] 0 0)), D.i (D.int (fn 11 [[D.i a2_0, D.i a2_1]] 0 1))]] 2 0)) = (D.int (fn 23 [[D.i a1_0, D.i a1_1], [D.i a2_0, D.i a2_1]] 2 0))) → ((D.int (fn 25 [[D.i a1_0, D.i a1_1], [D.i a3]] 1 0)) = 0) → ((D.int (fn 24 [[D.i (D.int (fn 11 [[D.i a1_0, D.i a1_1]] 0 0)), D.i (D.int (fn 11 [[D.i a1_0, D.i a1_1]] 0 1))], [D.i a3]] 0 0)) = (D.int (fn 11 [[D.i (D.int (fn 25 [[D.i a1_0, D.i a1_1], [D.i a3]] 0 0)), D.i (D.int (fn 25 [[D.i a1_0, D.i a1_1], [D.i a3]] 0 1))]] 0 0)) ∧ (D.int (fn 24 [[D.i (D.int (fn 11 [[D.i a1_0, D.i a1_1]] 0 0)), D.i (D.int (fn 11 [[D.i a1_0, D.i a1_1]] 0 1))], [D.i a3]] 0 1)) = (D.int (fn 11 [[D.i (D.int (fn 25 [[D.i a1_0, D.i a1_1], [D.i a3]] 0 0)), D.i (D.int (fn 25 [[D.i a1_0, D.i a1_1], [D.i a3]] 0 1))]] 0 1))) → ((D.int (fn 24 [[D.i (D.int (fn 11 [[D.i a1_0, D.i a1_1]] 0 0)), D.i (D.int (fn 11 [[D.i a1_0, D.i a1_1]] 0 1))], [D.i a3]] 1 0)) = (D.int (fn 25 [[D.i a1_0, D.i a1_1], [D.i a3]] 1 0))) → pre 9 []
  g32 : ∀ x0_0 x0_1, I0 x0_0 x0_1 → (¬ 100 < (a0.length : Int)) → (¬ x0_1 < (a0.length : Int)) → ((D.int (fn 20 [[D.l x0_0]] 0 0)) = (D.int (fn 11 [[D.i (D.int (fn 21 [[D.l a0]] 0 0)), D.i (D.int (fn 21 [[D.l a0]] 0 1))]] 0 0)) ∧ (D.int (fn 20 [[D.l x0_0]] 0 1)) = (D.int (fn 11 [[D.i (D.int (fn 21 [[D.l a0]] 0 0)), D.i (D.int (fn 21 [[D.l a0]] 0 1))]] 0 1))) → ((D.int (fn 20 [[D.l x0_0]] 1 0)) = (D.int (fn 21 [[D.l a0]] 1 0))) → ((D.int (fn 22 [[D.i (D.int (fn 11 [[D.i a1_0, D.i a1_1]] 0 0)), D.i (D.int (fn 11 [[D.i a1_0, D.i a1_1]] 0 1))], [D.i (D.int (fn 11 [[D.i a2_0, D.i a2_1]] 0 0)), D.i (D.int (fn 11 [[D.i a2_0, D.i a2_1]] 0 1))]] 0 0)) = (D.int (fn 23 [[D.i a1_0, D.i a1_1], [D.i a2_0, D.i a2_1]] 0 0))) → ((D.int (fn 22 [[D.i (D.int (fn 11 [[D.i a1_0, D.i a1_1]] 0 0)), D.i (D.int (fn 11 [[D.i a1_0, D.i a1_1]] 0 1))], [D.i (D.int (fn 11 [[D.i a2_0, D.i a2_1]] 0 0)), D.i (D.int (fn 11 [[D.i a2_0, D.i a2_1]] 0 1))]] 1 0)) = (D.int (fn 23 [[D.i a1_0, D.i a1_1], [D.i a2_0, D.i a2_1]] 1 0))) → ((D.int (fn 22 [[D.i (D.int (fn 11 [[D.i a1_0, D.i a1_1]] 0 0)), D.i (D.int (fn 11 [[D.i a1_0, D.i a1_1]] 0 1))], [D.i (D.int (fn 11 [[D.i a2_0, D.i a2_1]] 0 0)), D.i (D.int (fn 11 [[D.i a2_0, D.i a2_1]] 0 1))]] 2 0)) = (D.int (fn 23 [[D.i a1_0, D.i a1_1], [D.i a2_0, D.i a2_1]] 2 0))) → ((D.int (fn 25 [[D.i a1_0, D.i a1_1], [D.i a3]] 1 0)) = 0) → ((D.int (fn 24 [[D.i (D.int (fn 11 [[D.i a1_0, D.i a1_1]] 0 0)), D.i (D.int (fn 11 [[D.i a1_0, D.i a1_1]] 0 1))], [D.i a3]] 0 0)) = (D.int (fn 11 [[D.i (D.int (fn 25 [[D.i a1_0, D.i a1_1], [D.i a3]] 0 0)), D.i (D.int (fn 25 [[D.i a1_0, D.i a1_1], [D.i a3]] 0 1))]] 0 0)) ∧ (D.int (fn 24 [[D.i (D.int (fn 11 [[D.i a1_0, D.i a1_1]] 0 0)), D.i (D.int (fn 11 [[D.i a1_0, D.i a1_1]] 0 1))], [D.i a3]] 0 1)) = (D.int (fn 11 [[D.i (D.int (fn 25 [[D.i a1_0, D.i a1_1], [D.i a3]] 0 0)), D.i (D.int (fn 25 [[D.i a1_0, D.i a1_1], [D.i a3]] 0 1))]] 0 1))) → ((D.int (fn 24 [[D.i (D.int (fn 11 [[D.i a1_0, D.i a1_1]] 0 0)), D.i (D.int (fn 11 [[D.i a1_0, D.i a1_1]] 0 1))], [D.i a3]] 1 0)) = (D.int (fn 25 [[D.i a1_0, D.i a1_1], [D.i a3]] 1 0))) → R 0 0 = D.b (D.boo (fn 9 [] 0 0))
  g33 : ∀ x0_0 x0_1, I0 x0_0 x0_1 → (¬ 100 < (a0.length : Int)) → (¬ x0_1 < (a0.length : Int)) → ((D.int (fn 20 [[D.l x0_0]] 0 0)) = (D.int (fn 11 [[D.i (D.int (fn 21 [[D.l a0]] 0 0)), D.i (D.int (fn 21 [[D.l a0]] 0 1))]] 0 0)) ∧ (D.int (fn 20 [[D.l x0_0]] 0 1)) = (D.int (fn 11 [[D.i (D.int (fn 21 [[D.l a0]] 0 0)), D.i (D.int (fn 21 [[D.l a0]] 0 1))]] 0 1))) → ((D.int (fn 20 [[D.l x0_0]] 1 0)) = (D.int (fn 21 [[D.l a0]] 1 0))) → ((D.int (fn 22 [[D.i (D.int (fn 11 [[D.i a1_0, D.i a1_1]] 0 0)), D.i (D.int (fn 11 [[D.i a1_0, D.i a1_1]] 0 1))], [D.i (D.int (fn 11 [[D.i a2_0, D.i a2_1]] 0 0)), D.i (D.int (fn 11 [[D.i a2_0, D.i a2_1]] 0 1))]] 0 0)) = (D.int (fn 23 [[D.i a1_0, D.i a1_1], [D.i a2_0, D.i a2_1]] 0 0))) → ((D.int (fn 22 [[D.i (D.int (fn 11 [[D.i a1_0, D.i a1_1]] 0 0)), D.i (D.int (fn 11 [[D.i a1_0, D.i a1_1]] 0 1))], [D.i (D.int (fn 11 [[D.i a2_0, D.i a2_1]] 0 0)), D.i (D.int (fn 11 [[D.i a2_0, D.i a2_1]] 0 1))]] 1 0)) = (D.int (fn 23 [[D.i a1_0, D.i a1_1], [D.i a2_0, D.i a2_1]] 1 0))) → ((D.int (fn 22 [[D.i (D.int (fn 11 [[D.i a1_0, D.i a1_1]] 0 0)), D.i (D.int (fn 11 [[D.i a1_0, D.i a1_1]] 0 1))], [D.i (D.int (fn 11 [[D.i a2_0, D.i a2_1]] 0 0)), D.i (D.int (fn 11 [[D.i a2_0, D.i a2_1]] 0 1))]] 2 0)) = (D.int (fn 23 [[D.i a1_0, D.i a1_1], [D.i a2_0, D.i a2_1]] 2 0))) → ((D.int (fn 25 [[D.i a1_0, D.i a1_1], [D.i a3]] 1 0)) = 0) → ((D.int (fn 24 [[D.i (D.int (fn 11 [[D.i a1_0, D.i a1_1]] 0 0)), D.i (D.int (fn 11 [[D.i a1_0, D.i a1_1]] 0 1))], [D.i a3]] 0 0)) = (D.int (fn 11 [[D.i (D.int (fn 25 [[D.i a1_0, D.i a1_1], [D.i a3]] 0 0)), D.i (D.int (fn 25 [[D.i a1_0, D.i a1_1], [D.i a3]] 0 1))]] 0 0)) ∧ (D.int (fn 24 [[D.i (D.int (fn 11 [[D.i a1_0, D.i a1_1]] 0 0)), D.i (D.int (fn 11 [[D.i a1_0, D.i a1_1]] 0 1))], [D.i a3]] 0 1)) = (D.int (fn 11 [[D.i (D.int (fn 25 [[D.i a1_0, D.i a1_1], [D.i a3]] 0 0)), D.i (D.int (fn 25 [[D.i a1_0, D.i a1_1], [D.i a3]] 0 1))]] 0 1))) → (¬ (D.int (fn 24 [[D.i (D.int (fn 11 [[D.i a1_0, D.i a1_1]] 0 0)), D.i (D.int (fn 11 [[D.i a1_0, D.i a1_1]] 0 1))], [D.i a3]] 1 0)) = (D.int (fn 25 [[D.i a1_0, D.i a1_1], [D.i a3]] 1 0))) → R 0 0 = D.b false
  g34 : ∀ x0_0 x0_1, I0 x0_0 x0_1 → (¬ 100 < (a0.length : Int)) → (¬ x0_1 < (a0.length : Int)) → ((D.int (fn 20 [[D.l x0_0]] 0 0)) = (D.int (fn 11 [[D.i (D.int (fn 21 [[D.l a0]] 0 0)), D.i (D.int (fn 21 [[D.l a0]] 0 1))]] 0 0)) ∧ (D.int (fn 20 [[D.l x0_0]] 0 1)) = (D.int (fn 11 [[D.i (D.int (fn 21 [[D.l a0]] 0 0)), D.i (D.int (fn 21 [[D.l a0]] 0 1))]] 0 1))) → ((D.int (fn 20 [[D.l x0_0]] 1 0)) = (D.int (fn 21 [[D.l a0]] 1 0))) → ((D.int (fn 22 [[D.i (D.int (fn 11 [[D.i a1_0, D.i a1_1]] 0 0)), D.i (D.int (fn 11 [[D.i a1_0, D.i a1_1]] 0 1))], [D.i (D.int (fn 11 [[D.i a2_0, D.i a2_1]] 0 0)), D.i (D.int (fn 11 [[D.i a2_0, D.i a2_1]] 0 1))]] 0 0)) = (D.int (fn 23 [[D.i a1_0, D.i a1_1], [D.i a2_0, D.i a2_1]] 0 0))) → ((D.int (fn 22 [[D.i (D.int (fn 11 [[D.i a1_0, D.i a1_1]] 0 0)), D.i (D.int (fn 11 [[D.i a1_0, D.i a1_1]] 0 1))], [D.i (D.int (fn 11 [[D.i a2_0, D.i a2_1]] 0 0)), D.i (D.int (fn 11 [[D.i a2_0, D.i a2_1]] 0 1))]] 1 0)) = (D.int (fn 23 [[D.i a1_0, D.i a1_1], [D.i a2_0, D.i a2_1]] 1 0))) → ((D.int (fn 22 [[D.i (D.int (fn 11 [[D.i a1_0, D.i a1_1]] 0 0)), D.i (D.int (fn 11 [[D.i a1_0, D.i a1_1]] 0 1))], [D.i (D.int (fn 11 [[D.i a2_0, D.i a2_1]] 0 0)), D.i (D.int (fn 11 [[D.i a2_0, D.i a2_1]] 0 1))]] 2 0)) = (D.int (fn 23 [[D.i a1_0, D.i a1_1], [D.i a2_0, D.i a2_1]] 2 0))) → ((D.int (fn 25 [[D.i a1_0, D.i a1_1], [D.i a3]] 1 0)) = 0) → ((¬ (D.int (fn 24 [[D.i (D.int (fn 11 [[D.i a1_0, D.i a1_1]] 0 0)), D.i (D.int (fn 11 [[D.i a1_0, D.i a1_1]] 0 1))], [D.i a3]] 0 0)) = (D.int (fn 11 [[D.i (D.int (fn 25 [[D.i a1_0, D.i a1_1], [D.i a3]] 0 0)), D.i (D.int (fn 25 [[D.i a1_0, D.i a1_1], [D.i a3]] 0 1))]] 0 0))) ∨ (¬ (D.int (fn 24 [[D.i (D.int (fn 11 [[D.i a1_0, D.i a1_1]] 0 0)), D.i (D.int (fn 11 [[D.i a1_0, D.i a1_1]] 0 1))], [D.i a3]] 0 1)) = (D.int (fn 11 [[D.i (D.int (fn 25 [[D.i a1_0, D.i a1_1], [D.i a3]] 0 0)), D.i (D.int (fn 25 [[D.i a1_0, D.i a1_1], [D.i a3]] 0 1))]] 0 1)))) → R 0 0 = D.b false
end HX

namespace HX
open Go Go.Proofs CX
set_option maxHeartbeats 4000000 in
set_option maxRecDepth 100000 in
theorem walk4 {ro A pre fn} (hE : EnvOk ⟨A, (cxE ro), ksF, sigL [(11, ⟨[(true, [.int .i64, .int .i64])], [(true, [.int .i64, .int .i64])], false⟩), (20, ⟨[(false, [.sl [.int .i64, .int .i64]])], [(true, [.int .i64, .int .i64]), (false, [.int .i64])], false⟩), (21, ⟨[(false, [.sl [.int .i64, .int .i64]])], [(true, [.int .i64, .int .i64]), (false, [.int .i64])], false⟩), (22, ⟨[(true, [.int .i64, .int .i64]), (true, [.int .i64, .int .i64])], [(false, [.int .i64]), (false, [.int .i64]), (false, [.int .i64])], false⟩), (23, ⟨[(true, [.int .i64, .int .i64]), (true, [.int .i64, .int .i64])], [(false, [.int .i64]), (false, [.int .i64]), (false, [.int .i64])], false⟩), (24, ⟨[(true, [.int .i64, .int .i64]), (false, [.int .i64])], [(true, [.int .i64, .int .i64]), (false, [.int .i64])], false⟩), (25, ⟨[(true, [.int .i64, .int .i64]), (false, [.int .i64])], [(true, [.int .i64, .int .i64]), (false, [.int .i64])], false⟩), (9, ⟨[], [(false, [.bool])], false⟩)], pre, fn⟩) {P : List (List D) → Prop} {res : List (List D) → Nat → Nat → D}
    (hv : ∀ (a0 : Rows) (a1_0 : Int) (a1_1 : Int) (a2_0 : Int) (a2_1 : Int) (a3 : Int), ShR [.int .i64, .int .i64] a0 → P [[.l a0], [.i a1_0, .i a1_1], [.i a2_0, .i a2_1], [.i a3]] → ∃ (I0 : Rows → Int → Prop) (m0 : Rows → Int → Nat), V4 pre fn a0 a1_0 a1_1 a2_0 a2_1 a3 (res [[.l a0], [.i a1_0, .i a1_1], [.i a2_0, .i a2_1], [.i a3]]) I0 m0) :
    PureC0 (cxE ro) 4 ⟨[(false, [.sl [.int .i64, .int .i64]]), (true, [.int .i64, .int .i64]), (true, [.int .i64, .int .i64]), (false, [.int .i64])], [(false, [.bool])], false⟩ P res := by
  have hA := hE.A
  simp only [] at hA
  have hinl : ∀ f fn, inlL [] f = some fn → (cxE ro).fn f = some fn ∧ (cxE ro).ext f = none := Inls.ok (by repeat (first | exact .nil | refine .cons rfl rfl ?_))
  refine PureC0.of_vc hE hinl 6 (f := 4) (fn := Tryz.f4) ⟨rfl, rfl⟩ ?_
  intro a0 ha0 a1_0 a1_1 a2_0 a2_1 a3 hP
  obtain ⟨R, hR⟩ : ∃ R, res [[.l a0], [.i a1_0, .i a1_1], [.i a2_0, .i a2_1], [.i a3]] = R := ⟨_, rfl⟩
  rw [hR]
  obtain ⟨I0, m0, hV⟩ := hv a0 a1_0 a1_1 a2_0 a2_1 a3 ha0 hP
  rw [hR] at hV
  clear hR hP hv
  cbv
  repeat' (first | (refine Br.mk (fun _ => ?_) (fun _ => ?_) <;> cbv) | (refine NilB.mk (fun _ => ?_) ?_ <;> cbv) | refine And.intro ?_ ?_ | exact True.intro)
  · rename_i hp0_0
    subst hA; exact hV.g0 (dt hp0_0)
  · rename_i hp1_0
    subst hA; exact hV.g1 (dt hp1_0)
  · rename_i hp2_0
    refine Leaf.gen fun σz hσz => ?_
    refine loopB hE hinl 6 [] [] [] (fun x : Rows × Int => [.l x.1, .i x.2]) (fun x => I0 x.1 x.2) (fun x => m0 x.1 x.2) ([], 0) (by subst hA; exact hV.i0 (df hp2_0)) ?_ ?_ <;> subst hσz
    · clear hE hinl hV; cbv; (try (repeat' (first | exact True.intro | rfl | assumption | apply And.intro)))
    · intro ⟨x0_0, x0_1⟩ hI0 K0 hK0
      cbv
      repeat' (first | (refine Br.mk (fun _ => ?_) (fun _ => ?_) <;> cbv) | (refine NilB.mk (fun _ => ?_) ?_ <;> cbv) | refine And.intro ?_ ?_ | exact True.intro)
      · rename_i hp3_0
        subst hA; exact hV.g3 _ _ hI0 (df hp2_0) (dt hp3_0)
      · rename_i hp4_0
        subst hA; exact hV.g4 _ _ hI0 (df hp2_0) (dt hp4_0)
      · rename_i hp5_0
        subst hA; exact hV.g5 _ _ hI0 (df hp2_0) (dt hp5_0)
      · rename_i hp6_0
        subst hA; exact hV.g6 _ _ hI0 (df hp2_0) (dt hp6_0)
      · rename_i hp7_0
        subst hA; exact hV.g7 _ _ hI0 (df hp2_0) (dt hp7_0)
      · rename_i hp8_0
        subst hA; exact hV.g8 _ _ hI0 (df hp2_0) (dt hp8_0)
      · rename_i hp9_0
        refine hK0 (A.app x0_0 [[D.i (A.di (fn 11 [[D.i (A.di (A.get a0 (A.toNat x0_1) 0)), D.i (A.di (A.get a0 (A.toNat x0_1) 1))]] 0 0)), D.i (A.di (fn 11 [[D.i (A.di (A.get a0 (A.toNat x0_1) 0)), D.i (A.di (A.get a0 (A.toNat x0_1) 1))]] 0 1))]], A.add x0_1 1) _ ?_ ?_ ?_
        · subst hA; exact (hV.n9 _ _ hI0 (df hp2_0) (dt hp9_0)).1
        · subst hA; exact (hV.n9 _ _ hI0 (df hp2_0) (dt hp9_0)).2
        · clear hE hinl hV hK0; cbv; (try (repeat' (first | exact True.intro | rfl | assumption | apply And.intro)))
      · rename_i hp10_0
        subst hA; exact hV.g10 _ _ hI0 (df hp2_0) (df hp10_0)
      · rename_i hp11_0
        subst hA; exact hV.g11 _ _ hI0 (df hp2_0) (df hp11_0)
      · rename_i hp12_0
        subst hA; exact hV.g12 _ _ hI0 (df hp2_0) (df hp12_0)
      · rename_i hp13_0 hp13_1
        subst hA; exact hV.g13 _ _ hI0 (df hp2_0) (df hp13_0) ((and_f (nt hp13_1)).imp (fun h => (df h)) (fun h => (df h)))
      · rename_i hp14_0 hp14_1 hp14_2
        subst hA; exact hV.g14 _ _ hI0 (df hp2_0) (df hp14_0) ⟨(dt (and_t (nf hp14_1)).1), (dt (and_t (nf hp14_1)).2)⟩ (df (nt hp14_2))
      · rename_i hp15_0 hp15_1 hp15_2
        subst hA; exact hV.g15 _ _ hI0 (df hp2_0) (df hp15_0) ⟨(dt (and_t (nf hp15_1)).1), (dt (and_t (nf hp15_1)).2)⟩ (dt (nf hp15_2))
      · rename_i hp16_0 hp16_1 hp16_2
        subst hA; exact hV.g16 _ _ hI0 (df hp2_0) (df hp16_0) ⟨(dt (and_t (nf hp16_1)).1), (dt (and_t (nf hp16_1)).2)⟩ (dt (nf hp16_2))
      · rename_i hp17_0 hp17_1 hp17_2
        subst hA; exact hV.g17 _ _ hI0 (df hp2_0) (df hp17_0) ⟨(dt (and_t (nf hp17_1)).1), (dt (and_t (nf hp17_1)).2)⟩ (dt (nf hp17_2))
      · rename_i hp18_0 hp18_1 hp18_2
        subst hA; exact hV.g18 _ _ hI0 (df hp2_0) (df hp18_0) ⟨(dt (and_t (nf hp18_1)).1), (dt (and_t (nf hp18_1)).2)⟩ (dt (nf hp18_2))
      · rename_i hp19_0 hp19_1 hp19_2 hp19_3
        subst hA; exact hV.g19 _ _ hI0 (df hp2_0) (df hp19_0) ⟨(dt (and_t (nf hp19_1)).1), (dt (and_t (nf hp19_1)).2)⟩ (dt (nf hp19_2)) (df (nt hp19_3))
      · rename_i hp20_0 hp20_1 hp20_2 hp20_3 hp20_4
        subst hA; exact hV.g20 _ _ hI0 (df hp2_0) (df hp20_0) ⟨(dt (and_t (nf hp20_1)).1), (dt (and_t (nf hp20_1)).2)⟩ (dt (nf hp20_2)) (dt (nf hp20_3)) (df (nt hp20_4))
      · rename_i hp21_0 hp21_1 hp21_2 hp21_3 hp21_4 hp21_5
        subst hA; exact hV.g21 _ _ hI0 (df hp2_0) (df hp21_0) ⟨(dt (and_t (nf hp21_1)).1), (dt (and_t (nf hp21_1)).2)⟩ (dt (nf hp21_2)) (dt (nf hp21_3)) (dt (nf hp21_4)) (df (nt hp21_5))
      · rename_i hp22_0 hp22_1 hp22_2 hp22_3 hp22_4 hp22_5
        subst hA; exact hV.g22 _ _ hI0 (df hp2_0) (df hp22_0) ⟨(dt (and_t (nf hp22_1)).1), (dt (and_t (nf hp22_1)).2)⟩ (dt (nf hp22_2)) (dt (nf hp22_3)) (dt (nf hp22_4)) (dt (nf hp22_5))
      · rename_i hp23_0 hp23_1 hp23_2 hp23_3 hp23_4 hp23_5
        subst hA; exact hV.g23 _ _ hI0 (df hp2_0) (df hp23_0) ⟨(dt (and_t (nf hp23_1)).1), (dt (and_t (nf hp23_1)).2)⟩ (dt (nf hp23_2)) (dt (nf hp23_3)) (dt (nf hp23_4)) (dt (nf hp23_5))
      · rename_i hp24_0 hp24_1 hp24_2 hp24_3 hp24_4 hp24_5
        subst hA; exact hV.g24 _ _ hI0 (df hp2_0) (df hp24_0) ⟨(dt (and_t (nf hp24_1)).1), (dt (and_t (nf hp24_1)).2)⟩ (dt (nf hp24_2)) (dt (nf hp24_3)) (dt (nf hp24_4)) (dt (nf hp24_5))
      · rename_i hp25_0 hp25_1 hp25_2 hp25_3 hp25_4 hp25_5 hp25_6
        subst hA; exact hV.g25 _ _ hI0 (df hp2_0) (df hp25_0) ⟨(dt (and_t (nf hp25_1)).1), (dt (and_t (nf hp25_1)).2)⟩ (dt (nf hp25_2)) (dt (nf hp25_3)) (dt (nf hp25_4)) (dt (nf hp25_5)) (df (nt hp25_6))
      · rename_i hp26_0 hp26_1 hp26_2 hp26_3 hp26_4 hp26_5 hp26_6 hp26_7 hp26_8
        subst hA; exact hV.g26 _ _ hI0 (df hp2_0) (df hp26_0) ⟨(dt (and_t (nf hp26_1)).1), (dt (and_t (nf hp26_1)).2)⟩ (dt (nf hp26_2)) (dt (nf hp26_3)) (dt (nf hp26_4)) (dt (nf hp26_5)) (df (nt hp26_6)) ⟨(dt (and_t hp26_7).1), (dt (and_t hp26_7).2)⟩ (dt hp26_8)
      · rename_i hp27_0 hp27_1 hp27_2 hp27_3 hp27_4 hp27_5 hp27_6 hp27_7 hp27_8
        subst hA; exact hV.g27 _ _ hI0 (df hp2_0) (df hp27_0) ⟨(dt (and_t (nf hp27_1)).1), (dt (and_t (nf hp27_1)).2)⟩ (dt (nf hp27_2)) (dt (nf hp27_3)) (dt (nf hp27_4)) (dt (nf hp27_5)) (df (nt hp27_6)) ⟨(dt (and_t hp27_7).1), (dt (and_t hp27_7).2)⟩ (dt hp27_8)
      · rename_i hp28_0 hp28_1 hp28_2 hp28_3 hp28_4 hp28_5 hp28_6 hp28_7 hp28_8
        subst hA; exact hV.g28 _ _ hI0 (df hp2_0) (df hp28_0) ⟨(dt (and_t (nf hp28_1)).1), (dt (and_t (nf hp28_1)).2)⟩ (dt (nf hp28_2)) (dt (nf hp28_3)) (dt (nf hp28_4)) (dt (nf hp28_5)) (df (nt hp28_6)) ⟨(dt (and_t hp28_7).1), (dt (and_t hp28_7).2)⟩ (df hp28_8)
      · rename_i hp29_0 hp29_1 hp29_2 hp29_3 hp29_4 hp29_5 hp29_6 hp29_7
        subst hA; exact hV.g29 _ _ hI0 (df hp2_0) (df hp29_0) ⟨(dt (and_t (nf hp29_1)).1), (dt (and_t (nf hp29_1)).2)⟩ (dt (nf hp29_2)) (dt (nf hp29_3)) (dt (nf hp29_4)) (dt (nf hp29_5)) (df (nt hp29_6)) ((and_f hp29_7).imp (fun h => (df h)) (fun h => (df h)))
      · rename_i hp30_0 hp30_1 hp30_2 hp30_3 hp30_4 hp30_5 hp30_6
        subst hA; exact hV.g30 _ _ hI0 (df hp2_0) (df hp30_0) ⟨(dt (and_t (nf hp30_1)).1), (dt (and_t (nf hp30_1)).2)⟩ (dt (nf hp30_2)) (dt (nf hp30_3)) (dt (nf hp30_4)) (dt (nf hp30_5)) (dt (nf hp30_6))
      · rename_i hp31_0 hp31_1 hp31_2 hp31_3 hp31_4 hp31_5 hp31_6 hp31_7 hp31_8
        subst hA; exact hV.g31 _ _ hI0 (df hp2_0) (df hp31_0) ⟨(dt (and_t (nf hp31_1)).1), (dt (and_t (nf hp31_1)).2)⟩ (dt (nf hp31_2)) (dt (nf hp31_3)) (dt (nf hp31_4)) (dt (nf hp31_5)) (dt (nf hp31_6)) ⟨(dt (and_t hp31_7).1), (dt (and_t hp31_7).2)⟩ (dt hp31_8)
      · rename_i hp32_0 hp32_1 hp32_2 hp32_3 hp32_4 hp32_5 hp32_6 hp32_7 hp32_8
        subst hA; exact hV.g32 _ _ hI0 (df hp2_0) (df hp32_0) ⟨(dt (and_t (nf hp32_1)).1), (dt (and_t (nf hp32_1)).2)⟩ (dt (nf hp32_2)) (dt (nf hp32_3)) (dt (nf hp32_4)) (dt (nf hp32_5)) (dt (nf hp32_6)) ⟨(dt (and_t hp32_7).1), (dt (and_t hp32_7).2)⟩ (dt hp32_8)
      · rename_i hp33_0 hp33_1 hp33_2 hp33_3 hp33_4 hp33_5 hp33_6 hp33_7 hp33_8
        subst hA; exact hV.g33 _ _ hI0 (df hp2_0) (df hp33_0) ⟨(dt (and_t (nf hp33_1)).1), (dt (and_t (nf hp33_1)).2)⟩ (dt (nf hp33_2)) (dt (nf hp33_3)) (dt (nf hp33_4)) (dt (nf hp33_5)) (dt (nf hp33_6)) ⟨(dt (and_t hp33_7).1), (dt (and_t hp33_7).2)⟩ (df hp33_8)
      · rename_i hp34_0 hp34_1 hp34_2 hp34_3 hp34_4 hp34_5 hp34_6 hp34_7
        subst hA; exact hV.g34 _ _ hI0 (df hp2_0) (df hp34_0) ⟨(dt (and_t (nf hp34_1)).1), (dt (and_t (nf hp34_1)).2)⟩ (dt (nf hp34_2)) (dt (nf hp34_3)) (dt (nf hp34_4)) (dt (nf hp34_5)) (dt (nf hp34_6)) ((and_f hp34_7).imp (fun h => (df h)) (fun h => (df h)))
end HX

namespace HX
open Go Go.Proofs CX

theorem tyB_ok : tyB.All (fun t ty => CX.env.T t = some ty) := by
  unfold tyB
  simp only [BT.All, true_and, and_true]
  repeat' apply And.intro
  all_goals rfl

theorem cxE_ok (ro : Addr → Option V) : CX.EnvOk (cxE ro) Tryz.prog := by
  refine ⟨fun t ty h => CX.env_ok.T t ty (tyB_ok.get h), fun f fn h => CX.env_ok.fn f fn h, CX.env_ok.mixed, fun f b h w => ?_, fun f _ _ _ _ _ _ h => ?_, fun f h => ?_⟩
  rotate_left
  · simp only [cxE, extF] at h
    split at h <;> cases h
  · simp only [cxE, extF] at h
    split at h <;> cases h
  simp only [cxE, extF] at h
  split at h
  · rename_i hb
    simp only [beqN_iff] at hb
    simp only [Option.some.injEq, CX.Ext.bool.injEq] at h
    subst hb h
    exact (CX.works_ok w).mono fun e w' ⟨h1, h2, h3, h4, h5, h6⟩ => ⟨h1, h2, h3, h4, h5, h6⟩
  · cases h

theorem hxT {ro : Addr → Option V} : TOk (cxE ro) := TOk.of (cxE_ok ro)

theorem hxEnv {ro : Addr → Option V} {sig : Nat → Option Sig} {pre : Nat → List (List D) → Prop} {fn : Nat → List (List D) → Nat → Nat → D} (h : ∀ f sg, sig f = some sg → PureC (cxE ro) f sg (pre f) (fn f)) : EnvOk ⟨Ar.std, cxE ro, ksF, sig, pre, fn⟩ := ⟨rfl, hxT, h⟩

theorem works_pure {ro : Addr → Option V} : PureC (cxE ro) 9 ⟨[], [(false, [.bool])], false⟩ (fun _ => True) (fun _ _ _ => .b true) := by
  intro ds _ g bar nx h args hg hbar ha
  cases args with
  | cons _ _ => cases ds <;> simp [ArgsFz] at ha
  | nil =>
    have hfn : ∃ fn c, (cxE ro).fn 9 = some fn ∧ fn.body = some c := ⟨_, _, rfl, rfl⟩
    obtain ⟨fn, c, h1, h2⟩ := hfn
    refine ⟨[.bool true], h, nx, g, Evt.of fun n k => ?_, Nat.le_refl _, fun _ _ => rfl, fun _ _ h => h, fun id o hgo => ⟨hg id o hgo, .inl hgo⟩, ⟨[.bool true], rfl, fun j k hj => ?_, _, rfl, rfl⟩, trivial⟩
    · have hx : (cxE ro).ext 9 = some (.bool true) := rfl
      simp only [callF, h1, h2, hx]
      rfl
    · cases j with
      | zero =>
        simp only [List.getElem?_cons_zero, Option.some.injEq] at hj
        subst hj
        exact ⟨_, rfl, by simp only [FzC]; exact ⟨⟨_, rfl⟩, rfl⟩⟩
      | succ j => simp at hj

theorem call_ro {P : Program} {E : CX.Env} (hE : CX.EnvOk E P) {f : FuncId} {n : Nat} {v : V} {args : List V} {xs : List Value} {h' : T O} {nx' : Nat} {w : World} (hro : RoAt E.ro w) (ha : RvL (fun _ => none) 0 args xs)
    (h : callF E (cx E n) 0 .e 0 f args (fun v h nx => retV v h nx) = retV v h' nx') :
    Calls P f xs.toArray w fun e w' => ∃ u ρ n, e = .returned u ∧ Rv ρ n v u ∧ Kept w w' := by
  obtain ⟨v', g', n', fn, h1, _, _, h2⟩ := callF_ok hE (cx_ok hE n).1 (ρ := fun _ => none) (n := 0) (bar := 0) (g := .e) (w := w) (xs := xs) ⟨hro, fun a v h id o L _ _ hL => by cases hL⟩ ⟨fun id o h => by simp [T.get] at h, fun id o id' o' h => by simp [T.get] at h, fun _ _ => rfl, fun _ _ h => by cases h⟩ ha h
  have e : v' = v := by
    simp only [retV, Option.some.injEq, Prod.mk.injEq, CX.St.mk.injEq, CX.T.n.injEq, true_and, and_true] at h1
    exact h1.1
  subst e
  refine (callsIn_wide.1 (h2 none)).mono fun e w' he => ?_
  obtain ⟨u, ρ', rfl, d1, _, _, _, d5⟩ := he
  refine ⟨u, ρ', n', rfl, d1, d5.os, d5.tape, d5.output, d5.size, fun b hb => d5.keep b hb ?_⟩
  rintro ⟨id, o, L, _, h, _⟩
  simp [T.get] at h
end HX

namespace CX
open Go Go.ChangeShapes Go.WideShapes

theorem Kept.frozen {w w' : World} (h : Kept w w') {a : Addr} (ha : a.block < w.heap.size) : w'.frozen? a = w.frozen? a := by
  simp only [World.frozen?, h.2.2.2.2 a.block ha]

theorem Kept.but {w w' : World} (h : Kept w w') (may : MemPlace → Prop) : w.keptBut w' may := by
  refine ⟨h.1, h.2.2.1, fun i hi => ?_⟩
  rw [h.2.2.2.2 i hi]
  obtain ⟨o, ho⟩ : ∃ o, w.heap[i]? = some o := ⟨w.heap[i], by simp [hi]⟩
  rw [ho]
  cases o with
  | cells c t fr => exact ⟨rfl, rfl, rfl, fun _ _ => rfl⟩
  | map es c => exact .inr ⟨rfl, rfl⟩
  | _ => rfl

section
variable {H : Type} {enc : TypeId × Value → H} {P : Program}

theorem post_kept {f : Func} {s : ChangeSpec} {apart fresh handsOn again : Bool} {W W' : World} {args : Array Value} {v : Value} {ds gs : List (DataW H)} {before pa pv : List MemPlace}
    (hW : DataW.Whole enc P f.params.toList s.vars apart W args.toList ds gs before)
    (hres : ∀ (b : Nat) (sp : Nat → Bool) (hd : Bool), DataW.TrodAll enc P W' b sp hd f.resultTypes.toList (v.resultList f.resultTypes.size) (s.fn H (ds ++ gs)).results [])
    (hargs : ∀ sp : Nat → Bool, (∀ p ∈ before, sp p.block = true) → DataW.TrodAll enc P W' 0 sp true f.params.toList args.toList (s.fn H (ds ++ gs)).args pa)
    (hvars : ∀ sp : Nat → Bool, (∀ p ∈ before, sp p.block = true) → DataW.TrodVars enc P W' sp s.vars (s.fn H (ds ++ gs)).vars pv)
    (hps : before = pa ++ pv) (hk : Kept W W')
    (hok : ∀ (j : Nat) (t : TypeId) (r : Value), f.resultTypes[j]? = some t → (v.resultList f.resultTypes.size)[j]? = some r → Value.okWide P W' .any 0 t r) :
    s.post enc P f apart fresh handsOn again W args v W' := by
  have hold : ∀ p ∈ before, (fun b => decide (b < W.heap.size)) p.block = true := fun p hp => by simpa using hW.lt p hp
  have hlt := hW.lt
  refine ⟨ds, gs, before, [], pa, pv, hW, hres _ _ _, hargs _ hold, hvars _ hold, World.keptBut_mono (fun p hp => ⟨hp, ?_⟩) (hk.but (· ∈ before)), fun _ => ?_⟩
  · rw [hps, List.mem_append] at hp
    exact Or.inr hp
  · obtain ⟨_, _, _, _, _, hz, hn⟩ := hW
    refine ⟨hok, _, _, ([] ++ pa) ++ pv, ⟨[] ++ pa, pv, trodAll_append (hargs _ (fun _ _ => rfl)) (hres _ _ _), hvars _ (fun _ _ => rfl), rfl, ?_, ?_⟩, ?_⟩
    · intro b off hp
      have hp' : MemPlace.cell b off ∈ before := by rw [hps]; simpa using hp
      rw [hk.frozen (hlt _ hp')]
      exact hz b off hp'
    · intro ha
      have := hn ha
      rw [hps] at this
      simpa using this
    · intro p hp _
      rw [hps]
      simpa using hp
end
end CX

namespace HB
open Go Go.ChangeShapes Go.WideShapes Go.ChangeAt Go.RowKit

theorem add_block (a : Addr) (n : Nat) : (a.add n).block = a.block := by unfold Addr.add; split <;> rfl
theorem addr_add2 (a : Addr) (i c : Nat) : (a.add i).add c = a.add (i + c) := by
  unfold Addr.add
  by_cases hi : i = 0
  · subst hi; simp
  · by_cases hc : c = 0
    · subst hc; simp [hi]
    · simp [hi, hc, Nat.add_assoc]

theorem mapM_at {α β : Type} {f : α → Option β} : ∀ {l : List α} {r : List β}, l.mapM f = some r → r.length = l.length ∧ ∀ (i : Nat) (h : i < l.length), ∃ y, f l[i] = some y ∧ r[i]? = some y
  | [], r, h => by
    simp only [List.mapM_nil, Option.pure_def, Option.some.injEq] at h
    subst h
    exact ⟨rfl, fun i h => by simp at h⟩
  | x :: xs, r, h => by
    rw [List.mapM_cons] at h
    cases hx : f x with
    | none => simp [hx] at h
    | some y =>
      cases hxs : xs.mapM f with
      | none => simp [hx, hxs] at h
      | some ys =>
        simp only [hx, hxs, Option.bind_eq_bind, Option.bind_some, Option.pure_def, Option.some.injEq] at h
        subst h
        obtain ⟨h1, h2⟩ := mapM_at hxs
        refine ⟨by simp [h1], fun i hi => ?_⟩
        cases i with
        | zero => exact ⟨y, by simpa using hx, by simp⟩
        | succ i =>
          obtain ⟨z, e1, e2⟩ := h2 i (by simpa using hi)
          exact ⟨z, by simpa using e1, by simpa using e2⟩

theorem cells_get {w : World} {base : Nat} {a : Addr} {n : Nat} {cs : List Value} (h : w.cells? base a n = some cs) : cs.length = n ∧ (0 < n → a.block < w.heap.size) ∧ ∀ c, c < n → w.cell? (a.add c) = cs[c]? := by
  unfold World.cells? at h
  split at h
  · obtain ⟨h1, h2⟩ := mapM_at h
    rw [List.length_range] at h1
    have key : ∀ c, c < n → w.cell? (a.add c) = cs[c]? := fun c hc => by
      obtain ⟨y, e1, e2⟩ := h2 c (by simpa using hc)
      rw [List.getElem_range] at e1
      rw [e1, e2]
    refine ⟨h1, fun h0 => ?_, key⟩
    obtain ⟨y, e1, _⟩ := h2 0 (by simpa using h0)
    rw [List.getElem_range] at e1
    rcases Nat.lt_or_ge a.block w.heap.size with hb | hb
    · exact hb
    · exfalso
      unfold World.cell? at e1
      rw [add_block] at e1
      rw [Array.getElem?_eq_none (by omega)] at e1
      cases e1
  · cases h

section
variable {H : Type} {enc : TypeId × Value → H} {P : Program} {w : World} {base : Nat} {spare : Nat → Bool} {held : Bool}
theorem wf_rng {k : IntKind} {n : Int} (h : (Lit.int k n).wf = true) : k.min ≤ n ∧ n ≤ k.max := by
  simpa [Lit.wf] using h

theorem trod_array {t e : TypeId} {n m : Nat} {cs : List Value} {x : DataW H × List MemPlace} (ht : P.underlying t = some (.array n e)) (h : DataW.trod enc P w base spare held (m + 1) t cs = some x) :
    cs.length = P.cellsOf t ∧ ∀ i, i < n → ∃ y, DataW.trod enc P w base spare held m e ((cs.drop (i * P.cellsOf e)).take (P.cellsOf e)) = some y := by
  unfold DataW.trod at h
  rw [ht] at h
  split at h <;> simp_all
  obtain ⟨hl, h⟩ := h
  obtain ⟨a, h, _⟩ := h
  obtain ⟨h1, h2⟩ := mapM_at h
  intro i hi
  obtain ⟨y, e1, _⟩ := h2 i (by simpa using hi)
  rw [List.getElem_range] at e1
  exact ⟨y.1, y.2, by simpa using e1⟩

def isAgg (P : Program) (t : TypeId) : Bool := match P.underlying t with
  | some (.struct _) => true
  | some (.array _ _) => true
  | _ => false

theorem Kept_same {W W' : World} (h : CX.Kept W W') {p : MemPlace} (hp : p.block < W.heap.size) : W.sameAt W' p := by
  cases p with
  | cell b off =>
    simp only [World.sameAt, World.cell?]
    rw [h.2.2.2.2 b hp]
  | map b => exact h.2.2.2.2 b hp

theorem args_stay (hl : laidOutB P = true) {W W' : World} {sp : Nat → Bool} : ∀ {ts : List TypeId} {vs : List Value} {ds : List (DataW H)} {ps : List MemPlace}, (ts.all fun t => P.readableRec t && decide (t < P.types.size)) = true →
    DataW.TrodAll enc P W base (fun _ => true) true ts vs ds ps → (∀ p ∈ ps, W.sameAt W' p) → (∀ p ∈ ps, sp p.block = true) → DataW.TrodAll enc P W' base sp true ts vs ds ps
  | [], vs, ds, ps, _, h, _, _ => by
    obtain ⟨rfl, rfl, rfl⟩ := trodAll_nil h
    exact trodAll_mk0
  | t :: ts, [], ds, ps, _, h, _, _ => by simp [DataW.TrodAll] at h
  | t :: ts, v :: vs, [], ps, _, h, _, _ => by simp [DataW.TrodAll] at h
  | t :: ts, v :: vs, d :: ds, ps, hr, h, h1, h2 => by
    obtain ⟨p, q, ha, hb, rfl⟩ := h
    simp only [List.all_cons, Bool.and_eq_true, decide_eq_true_eq] at hr
    exact ⟨p, q, Go.WideElems.Trod_stays hl hr.1.1 hr.1.2 ha (fun x hx => h1 x (by simp [hx])) (fun x hx => h2 x (by simp [hx])),
      args_stay hl (by simpa using hr.2) hb (fun x hx => h1 x (by simp [hx])) (fun x hx => h2 x (by simp [hx])), rfl⟩

end
end HB

namespace HX
open Go Go.Proofs Go.ChangeShapes Go.WideShapes Go.ChangeAt Go.RowKit CX

def descF (g : TypeId → Option (List Kd)) (P : Program) : List Field → Nat → Option (List Kd)
  | [], _ => some []
  | f :: r, off => match g f.type with
    | some ks => match beqN f.offset off && beqN (P.cellsOf f.type) ks.length with
      | true => match descF g P r (off + ks.length) with
        | some ks' => some (ks ++ ks')
        | none => none
      | false => none
    | none => none

def repK (ks : List Kd) : Nat → List Kd
  | 0 => []
  | n + 1 => ks ++ repK ks n

def desc (P : Program) : Nat → TypeId → Option (List Kd)
  | 0, _ => none
  | n + 1, t => match P.underlying t with
    | some .bool => some [.bool]
    | some (.int k) => some [.int k]
    | some .string => some [.str]
    | some (.slice e) => match desc P n e with
      | some (k :: ks) => match beqN (P.cellsOf e) (ks.length + 1) with
        | true => some [.sl (k :: ks)]
        | false => none
      | _ => none
    | some (.struct fs) => match descF (desc P n) P fs.toList 0 with
      | some ks => match beqN (P.cellsOf t) ks.length with
        | true => some ks
        | false => none
      | none => none
    | some (.array m e) => match desc P n e with
      | some ks => match beqN (P.cellsOf e) ks.length && beqN (P.cellsOf t) (repK ks m).length with
        | true => some (repK ks m)
        | false => none
      | none => none
    | _ => none

mutual
def RngK : Kd → D → Prop
  | .int k, d => k.min ≤ d.int ∧ d.int ≤ k.max
  | .str, d => ∀ b ∈ d.str, b < 256
  | .sl ks, d => ∀ row ∈ d.rows, RngL ks row
  | _, _ => True
def RngL : List Kd → List D → Prop
  | k :: ks, d :: ds => RngK k d ∧ RngL ks ds
  | _, _ => True
end

mutual
def RdK (w : World) : Kd → D → Value → Prop
  | .int k, d, u => (∃ n, d = .i n) ∧ u = .int k d.int
  | .bool, d, u => (∃ b, d = .b b) ∧ u = .bool d.boo
  | .str, d, u => (∃ s, d = .s s) ∧ u = .string (bytesOf d.str)
  | .fnc _, _, _ => False
  | .pt _, _, _ => False
  | .sl ks, d, u => (∃ rows, d = .l rows ∧ LenR ks rows) ∧ 0 < ks.length ∧ ((d.rows = [] ∧ u = .slice none 0 0) ∨ ∃ a cap, u = .slice (some a) d.rows.length cap ∧ d.rows.length ≤ cap ∧
      ∀ i row, d.rows[i]? = some row → ∃ cs : List Value, (∀ c, c < ks.length → w.cell? (a.add (i * ks.length + c)) = cs[c]?) ∧ RdL w ks row cs)
def RdL (w : World) : List Kd → List D → List Value → Prop
  | [], [], [] => True
  | k :: ks, d :: ds, c :: cs => RdK w k d c ∧ RdL w ks ds cs
  | _, _, _ => False
end

def Holds (w : World) (ks : List Kd) (cs : List Value) : Prop := ∃ l, RdL w ks l cs ∧ RngL ks l

theorem RdL.append {w : World} : ∀ {ks ks' : List Kd} {l l' : List D} {cs cs' : List Value}, RdL w ks l cs → RdL w ks' l' cs' → RdL w (ks ++ ks') (l ++ l') (cs ++ cs')
  | [], _, [], _, [], _, _, h => h
  | _ :: _, _, _ :: _, _, _ :: _, _, h, h' => by
    simp only [RdL, List.cons_append] at h ⊢
    exact ⟨h.1, RdL.append h.2 h'⟩
  | [], _, [], _, _ :: _, _, h, _ => by simp [RdL] at h
  | [], _, _ :: _, _, _, _, h, _ => by simp [RdL] at h
  | _ :: _, _, [], _, _, _, h, _ => by simp [RdL] at h
  | _ :: _, _, _ :: _, _, [], _, h, _ => by simp [RdL] at h

theorem RdL.len {w : World} : ∀ {ks : List Kd} {l : List D} {cs : List Value}, RdL w ks l cs → l.length = ks.length ∧ cs.length = ks.length
  | [], [], [], _ => ⟨rfl, rfl⟩
  | _ :: _, _ :: _, _ :: _, h => by
    simp only [RdL] at h
    have := RdL.len h.2
    exact ⟨by simp [this.1], by simp [this.2]⟩
  | [], [], _ :: _, h => by simp [RdL] at h
  | [], _ :: _, _, h => by simp [RdL] at h
  | _ :: _, [], _, h => by simp [RdL] at h
  | _ :: _, _ :: _, [], h => by simp [RdL] at h

theorem RngL.append : ∀ {ks ks' : List Kd} {l l' : List D}, l.length = ks.length → RngL ks l → RngL ks' l' → RngL (ks ++ ks') (l ++ l')
  | [], _, [], _, _, _, h => h
  | _ :: _, _, _ :: _, _, hl, h, h' => by
    simp only [RngL, List.cons_append] at h ⊢
    exact ⟨h.1, RngL.append (by simpa using hl) h.2 h'⟩
  | [], _, _ :: _, _, hl, _, _ => by simp at hl
  | _ :: _, _, [], _, hl, _, _ => by simp at hl

theorem Holds.append {w : World} {ks ks' : List Kd} {cs cs' : List Value} (h : Holds w ks cs) (h' : Holds w ks' cs') : Holds w (ks ++ ks') (cs ++ cs') := by
  obtain ⟨l, a, b⟩ := h
  obtain ⟨l', a', b'⟩ := h'
  exact ⟨l ++ l', a.append a', b.append a.len.1 b'⟩

theorem Holds.nil {w : World} : Holds w [] [] := ⟨[], trivial, trivial⟩

section
variable {H : Type} {enc : TypeId × Value → H} {P : Program} {w : World} {base : Nat} {spare : Nat → Bool} {held : Bool}

theorem holds_one {k : Kd} {d : D} {u : Value} (h : RdK w k d u) (hr : RngK k d) : Holds w [k] [u] := ⟨[d], ⟨h, trivial⟩, ⟨hr, trivial⟩⟩

theorem holds_rep {ks : List Kd} {cs : List Value} (m : Nat) (hl : cs.length = (repK ks m).length) (h : ∀ i, i < m → Holds w ks ((cs.drop (i * ks.length)).take ks.length)) : Holds w (repK ks m) cs := by
  induction m generalizing cs with
  | zero =>
    have : cs = [] := List.length_eq_zero_iff.1 (by simpa [repK] using hl)
    subst this
    exact Holds.nil
  | succ m ih =>
    have e : cs = cs.take ks.length ++ cs.drop ks.length := (List.take_append_drop _ _).symm
    rw [e]
    refine Holds.append (by simpa using h 0 (by omega)) (ih ?_ fun i hi => ?_)
    · simp only [List.length_drop, hl, repK, List.length_append]
      omega
    · have := h (i + 1) (by omega)
      rwa [List.drop_drop, show ks.length + i * ks.length = (i + 1) * ks.length by rw [Nat.add_mul]; omega]

theorem holds_fields {g : TypeId → Option (List Kd)} {cs : List Value} : ∀ (fs : List Field) (off : Nat) (ks : List Kd), descF g P fs off = some ks → cs.length = off + ks.length →
    (∀ f ∈ fs, ∀ ks', g f.type = some ks' → Holds w ks' ((cs.drop f.offset).take (P.cellsOf f.type))) → Holds w ks (cs.drop off)
  | [], off, ks, h, hl, _ => by
    simp only [descF, Option.some.injEq] at h
    subst h
    have : cs.drop off = [] := List.drop_eq_nil_of_le (by simp at hl; omega)
    rw [this]
    exact Holds.nil
  | f :: r, off, ks, h, hl, hf => by
    simp only [descF] at h
    split at h
    · rename_i ks1 hk
      split at h
      · rename_i hb
        simp only [Bool.and_eq_true, beqN_iff] at hb
        split at h
        · rename_i ks2 hks2
          simp only [Option.some.injEq] at h
          subst h
          have e : cs.drop off = (cs.drop off).take ks1.length ++ (cs.drop off).drop ks1.length := (List.take_append_drop _ _).symm
          rw [e]
          refine Holds.append ?_ ?_
          · have := hf f (by simp) ks1 hk
            rwa [hb.1, hb.2] at this
          · rw [List.drop_drop]
            exact holds_fields r (off + ks1.length) ks2 hks2 (by rw [hl, List.length_append]; omega) (fun f' hf' => hf f' (by simp [hf']))
        · cases h
      · cases h
    · cases h

theorem bytes_of (z : ByteArray) : bytesOf (z.data.toList.map UInt8.toNat) = z := by
  obtain ⟨d⟩ := z
  simp only [bytesOf, List.map_map]
  congr 1
  have : (UInt8.ofNat ∘ UInt8.toNat) = id := by funext x; simp
  rw [this]
  simp

theorem holds_of_trod : ∀ (n : Nat) (t : TypeId) (ks : List Kd), desc P n t = some ks → ∀ (m : Nat) (cs : List Value) (x : DataW H × List MemPlace), DataW.trod enc P w base spare held m t cs = some x → Holds w ks cs
  | 0, _, _, h, _, _, _, _ => by simp [desc] at h
  | n + 1, t, ks, h, m, cs, x, hx => by
    unfold desc at h
    split at h
    · rename_i hu
      simp only [Option.some.injEq] at h
      subst h
      obtain ⟨b, rfl, _⟩ := DataW.trod_bool hu hx
      exact holds_one (d := .b b) ⟨⟨_, rfl⟩, rfl⟩ trivial
    · rename_i k hu
      simp only [Option.some.injEq] at h
      subst h
      obtain ⟨z, rfl, _, hw⟩ := DataW.trod_int hu hx
      exact holds_one (d := .i z) ⟨⟨_, rfl⟩, rfl⟩ (HB.wf_rng hw)
    · rename_i hu
      simp only [Option.some.injEq] at h
      subst h
      obtain ⟨z, rfl, _, _⟩ := DataW.trod_string hu hx
      refine holds_one (d := .s (z.data.toList.map UInt8.toNat)) ⟨⟨_, rfl⟩, ?_⟩ ?_
      · show Value.string z = .string (bytesOf (z.data.toList.map UInt8.toNat))
        rw [bytes_of]
      · intro b hb
        obtain ⟨x, _, rfl⟩ := List.mem_map.1 (show b ∈ z.data.toList.map UInt8.toNat from hb)
        exact x.toNat_lt
    · rename_i e hu
      split at h
      · rename_i k ks' hd
        split at h
        · rename_i hb
          have hb : P.cellsOf e = ks'.length + 1 := by rw [beqN_iff] at hb; exact hb
          simp only [Option.some.injEq] at h
          subst h
          rcases DataW.trod_slice hu hx with ⟨rfl, _⟩ | ⟨a, len, cap, elems, rest, m', rfl, rfl, _, _, h2, h3, h4, h5, _, _⟩
          · exact holds_one (d := .l []) ⟨⟨_, rfl, fun _ h => (by cases h), by simp⟩, by simp, .inl ⟨rfl, rfl⟩⟩ (fun _ h => (by cases h))
          · have row : ∀ i, i < len → ∃ l cs', (∀ c, c < ks'.length + 1 → w.cell? (a.add (i * (ks'.length + 1) + c)) = cs'[c]?) ∧ RdL w (k :: ks') l cs' ∧ RngL (k :: ks') l := by
              intro i hi
              have e1 := h5 i hi
              rw [List.getElem?_eq_getElem (by omega)] at e1
              obtain ⟨cs', c1, c2⟩ := Option.bind_eq_some_iff.1 e1
              obtain ⟨d1, d2, d3⟩ := HB.cells_get c1
              rw [hb] at d1 d2 d3 c1
              obtain ⟨l, g1, g2⟩ := holds_of_trod n e (k :: ks') hd m' cs' _ c2
              refine ⟨l, cs', fun c hc => ?_, g1, g2⟩
              rw [← d3 c hc, HB.addr_add2]
            let rows : Rows := (List.range len).map fun i => if h : i < len then Classical.choose (row i h) else []
            have hlen : rows.length = len := by simp [rows]
            have hget : ∀ i r, rows[i]? = some r → ∃ h : i < len, r = Classical.choose (row i h) := by
              intro i r hr
              have hi : i < len := by rw [← hlen]; exact (List.getElem?_eq_some_iff.1 hr).1
              refine ⟨hi, ?_⟩
              simp only [rows, List.getElem?_map, List.getElem?_range hi, Option.map_some, Option.some.injEq] at hr
              rw [← hr, dif_pos hi]
            refine holds_one (d := .l rows) ⟨⟨_, rfl, fun r hr => ?_, ?_⟩, by simp, .inr ⟨a, cap, ?_, ?_, fun i r hr => ?_⟩⟩ (fun r hr => ?_)
            · obtain ⟨i, hi⟩ := List.getElem?_of_mem hr
              obtain ⟨h, rfl⟩ := hget i r hi
              obtain ⟨_, _, h6, _⟩ := Classical.choose_spec (row i h)
              exact h6.len.1
            · have h3 : cap ≤ 9223372036854775807 := h3
              rw [hlen]; omega
            · show Value.slice (some a) len cap = .slice (some a) rows.length cap
              rw [hlen]
            · show rows.length ≤ cap
              rw [hlen]; exact h2
            · obtain ⟨h, rfl⟩ := hget i r hr
              obtain ⟨cs', h5', h6, _⟩ := Classical.choose_spec (row i h)
              exact ⟨cs', fun c hc => h5' c (by simpa using hc), h6⟩
            · obtain ⟨i, hi⟩ := List.getElem?_of_mem (show r ∈ rows from hr)
              obtain ⟨h, rfl⟩ := hget i r hi
              obtain ⟨_, _, _, h7⟩ := Classical.choose_spec (row i h)
              exact h7
        · cases h
      · cases h
    · rename_i fs hu
      split at h
      · rename_i ks' hd
        split at h
        · rename_i hb
          rw [beqN_iff] at hb
          simp only [Option.some.injEq] at h
          subst h
          obtain ⟨xs, m', rfl, _, hl, hxs, hf⟩ := DataW.trod_struct hu hx
          have := holds_fields (w := w) (cs := cs) fs.toList 0 ks' hd (by rw [hl, hb]; simp) (fun f hm ks1 hk1 => ?_)
          · simpa using this
          · obtain ⟨i, hi, rfl⟩ := List.mem_iff_getElem.1 hm
            have hi' : i < fs.size := by simpa using hi
            have e1 := hf i fs[i] (by simp [hi'])
            rw [List.getElem?_eq_getElem (by omega)] at e1
            have e2 : fs.toList[i] = fs[i] := by simp
            rw [e2] at hk1 ⊢
            exact holds_of_trod n _ ks1 hk1 m' _ _ e1
        · cases h
      · cases h
    · rename_i m0 e hu
      split at h
      · rename_i ks' hd
        split at h
        · rename_i hb
          simp only [Bool.and_eq_true, beqN_iff] at hb
          simp only [Option.some.injEq] at h
          subst h
          cases m with
          | zero => simp [DataW.trod] at hx
          | succ m' =>
            obtain ⟨hl, hi⟩ := HB.trod_array hu hx
            refine holds_rep m0 (by rw [hl, hb.2]) fun i h => ?_
            obtain ⟨y, hy⟩ := hi i h
            rw [hb.1] at hy
            exact holds_of_trod n e ks' hd m' _ y hy
        · cases h
      · cases h
    · cases h


def strOf (z : ByteArray) : List Nat := z.data.toList.map UInt8.toNat

def valOf : Value → Option V
  | .int k n => some (.int k n)
  | .bool b => some (.bool b)
  | .string z => some (.str (strOf z))
  | .slice none 0 0 => some .nils
  | .slice (some a) n cap => if n ≤ cap then some (.rslc a n cap) else none
  | _ => none

noncomputable def roOf (w : World) (a : Addr) : Option V := match w.cell? a with
  | some u => valOf u
  | none => none

theorem valOf_rv {u : Value} {v : V} (h : valOf u = some v) : one1 v = true ∧ ∀ ρ n, Rv ρ n v u := by
  unfold valOf at h
  split at h
  · cases h; exact ⟨rfl, fun _ _ => by simp only [Rv]⟩
  · cases h; exact ⟨rfl, fun _ _ => by simp only [Rv]⟩
  · cases h
    rename_i z
    refine ⟨rfl, fun _ _ => ?_⟩
    simp only [Rv]
    refine ⟨fun b hb => ?_, by rw [strOf, bytes_of]⟩
    obtain ⟨x, _, rfl⟩ := List.mem_map.1 (show b ∈ z.data.toList.map UInt8.toNat from hb)
    exact x.toNat_lt
  · cases h; exact ⟨rfl, fun _ _ => by simp only [Rv]⟩
  · split at h
    · rename_i hle
      cases h
      exact ⟨rfl, fun _ _ => by simp only [Rv]; exact ⟨hle, trivial⟩⟩
    · cases h
  · cases h

theorem roOf_ok (w : World) : RoAt (roOf w) w := by
  intro a v h
  unfold roOf at h
  split at h
  · rename_i u hu
    obtain ⟨h1, h2⟩ := valOf_rv h
    exact ⟨h1, u, hu, fun ρ n => h2 ρ n⟩
  · cases h

theorem str_bytes {s : List Nat} (h : ∀ b ∈ s, b < 256) : strOf (bytesOf s) = s := by
  simp only [strOf, bytesOf, List.map_map]
  induction s with
  | nil => rfl
  | cons b s ih =>
    have hb := h b (.head _)
    simp only [List.map_cons, Function.comp_apply, UInt8.toNat_ofNat', List.cons.injEq]
    exact ⟨Nat.mod_eq_of_lt hb, ih fun x hx => h x (.tail _ hx)⟩

mutual
theorem rdK_fz {g : Nat → Option O} {B : Nat} : ∀ (k : Kd) (d : D) (u : Value), RdK w k d u → RngK k d → ∃ v, valOf u = some v ∧ FzC (roOf w) g B k d v
  | .int k, d, u, h, _ => by
    simp only [RdK] at h
    obtain ⟨⟨n, rfl⟩, rfl⟩ := h
    exact ⟨_, rfl, by simp only [FzC]; exact ⟨⟨_, rfl⟩, trivial⟩⟩
  | .bool, d, u, h, _ => by
    simp only [RdK] at h
    obtain ⟨⟨n, rfl⟩, rfl⟩ := h
    exact ⟨_, rfl, by simp only [FzC]; exact ⟨⟨_, rfl⟩, trivial⟩⟩
  | .str, d, u, h, hr => by
    simp only [RdK] at h
    obtain ⟨⟨n, rfl⟩, rfl⟩ := h
    simp only [RngK, D.str] at hr
    refine ⟨_, rfl, ?_⟩
    simp only [FzC, D.str, str_bytes hr]
    exact ⟨⟨_, rfl⟩, trivial⟩
  | .sl ks, d, u, h, hr => by
    simp only [RdK] at h
    obtain ⟨⟨rows, rfl, hl⟩, hpos, h⟩ := h
    simp only [RngK, D.rows] at hr h
    rcases h with ⟨rfl, rfl⟩ | ⟨a, cap, rfl, hcap, hrow⟩
    · exact ⟨.nils, rfl, by simp only [FzC]; exact ⟨⟨_, rfl, hl⟩, .inl ⟨rfl, trivial⟩⟩⟩
    · refine ⟨.rslc a rows.length cap, by simp only [valOf]; rw [if_pos hcap], ?_⟩
      simp only [FzC, D.rows]
      refine ⟨⟨_, rfl, hl⟩, .inr (.inr ⟨a, cap, rfl, hpos, hcap, fun i hi => ?_⟩)⟩
      obtain ⟨cs, c1, c2⟩ := hrow i rows[i] (List.getElem?_eq_getElem hi)
      have hg := hr rows[i] (List.getElem_mem hi)
      refine FzR.of _ _ _ _ fun j k hk => ?_
      have hj : j < ks.length := (List.getElem?_eq_some_iff.1 hk).1
      obtain ⟨v, e1, e2⟩ := rdL_fz (g := g) (B := B) ks rows[i] cs c2 hg j k hk
      refine ⟨v, ?_, ?_⟩
      · simp only [roOf, Nat.zero_add, c1 j hj]
        revert e1
        cases cs[j]? with
        | none => intro e1; cases e1
        | some u => intro e1; exact e1
      · have : gt rows i (0 + j) = rows[i].getD j .nil := by simp [gt, List.getD_eq_getElem?_getD, hi]
        rw [this]; exact e2
theorem rdL_fz {g : Nat → Option O} {B : Nat} : ∀ (ks : List Kd) (l : List D) (cs : List Value), RdL w ks l cs → RngL ks l → ∀ j k, ks[j]? = some k → ∃ v, (cs[j]?).bind valOf = some v ∧ FzC (roOf w) g B k (l.getD j .nil) v
  | [], _, _, _, _, j, k, hk => by simp at hk
  | k0 :: ks, d :: l, c :: cs, h, hr, 0, k, hk => by
    simp only [RdL] at h
    simp only [RngL] at hr
    simp only [List.getElem?_cons_zero, Option.some.injEq] at hk
    subst hk
    obtain ⟨v, a, b⟩ := rdK_fz (g := g) (B := B) k0 d c h.1 hr.1
    exact ⟨v, by simpa using a, by simpa using b⟩
  | k0 :: ks, d :: l, c :: cs, h, hr, j + 1, k, hk => by
    simp only [RdL] at h
    simp only [RngL] at hr
    obtain ⟨v, a, b⟩ := rdL_fz (g := g) (B := B) ks l cs h.2 hr.2 j k (by simpa using hk)
    exact ⟨v, by simpa using a, by simpa using b⟩
  | _ :: _, [], _, h, _, _, _, _ => by simp [RdL] at h
  | _ :: _, _ :: _, [], h, _, _, _, _ => by simp [RdL] at h
end

theorem rdL_vals {g : Nat → Option O} {B : Nat} {ρ : Nm} {n : Nat} : ∀ (ks : List Kd) (l : List D) (cs : List Value), RdL w ks l cs → RngL ks l →
    ∃ x : List V, x.length = ks.length ∧ (∀ j k, ks[j]? = some k → ∃ u, x[j]? = some u ∧ FzC (roOf w) g B k (l.getD j .nil) u) ∧ RvL ρ n x cs
  | [], [], [], _, _ => ⟨[], rfl, fun j k h => by simp at h, by simp [RvL]⟩
  | k :: ks, d :: l, c :: cs, h, hr => by
    simp only [RdL] at h
    simp only [RngL] at hr
    obtain ⟨v, a, b⟩ := rdK_fz (g := g) (B := B) k d c h.1 hr.1
    obtain ⟨x, e1, e2, e3⟩ := rdL_vals (g := g) (B := B) (ρ := ρ) (n := n) ks l cs h.2 hr.2
    refine ⟨v :: x, by simp [e1], fun j k' hk => ?_, by simp only [RvL]; exact ⟨(valOf_rv a).2 ρ n, e3⟩⟩
    cases j with
    | zero =>
      simp only [List.getElem?_cons_zero, Option.some.injEq] at hk
      subst hk
      exact ⟨v, rfl, by simpa using b⟩
    | succ j => simpa using e2 j k' (by simpa using hk)
  | [], [], _ :: _, h, _ => by simp [RdL] at h
  | [], _ :: _, _, h, _ => by simp [RdL] at h
  | _ :: _, [], _, h, _ => by simp [RdL] at h
  | _ :: _, _ :: _, [], h, _ => by simp [RdL] at h

def descAll (P : Program) (n : Nat) : List TypeId → Option (List (Bool × List Kd))
  | [] => some []
  | t :: r => match desc P n t, descAll P n r with
    | some ks, some l => some ((HB.isAgg P t, ks) :: l)
    | _, _ => none

def RngAll : List (Bool × List Kd) → List (List D) → Prop
  | (_, ks) :: r, d :: ds => RngL ks d ∧ RngAll r ds
  | _, _ => True

def trueRes (_ : List (List D)) (_ _ : Nat) : D := .b true

def ArgsRd (w : World) : List (Bool × List Kd) → List (List D) → List Value → Prop
  | [], [], [] => True
  | (g, ks) :: r, d :: ds, v :: vs => (RdL w ks d v.cells.toList ∧ (g = true → v = .agg (v.cells.toList).toArray) ∧ (g = false → v.cells.toList = [v])) ∧ ArgsRd w r ds vs
  | _, _, _ => False

theorem args_fz {g : Nat → Option O} {B : Nat} {ρ : Nm} {n : Nat} : ∀ (ps : List (Bool × List Kd)) (ds : List (List D)) (vs : List Value), ArgsRd w ps ds vs → RngAll ps ds → ∃ x : List V, ArgsFz (roOf w) g B ps ds x ∧ RvL ρ n x vs
  | [], [], [], _, _ => ⟨[], trivial, by simp [RvL]⟩
  | (a, ks) :: ps, d :: ds, v :: vs, h, hr => by
    obtain ⟨⟨h1, h2, h3⟩, h4⟩ := h
    obtain ⟨x, e1, e2, e3⟩ := rdL_vals (g := g) (B := B) (ρ := ρ) (n := n) ks d _ h1 hr.1
    obtain ⟨xs, f1, f2⟩ := args_fz (g := g) (B := B) (ρ := ρ) (n := n) ps ds vs h4 hr.2
    cases a with
    | true => exact ⟨.agg x :: xs, ⟨h1.len.1, ⟨x, e1, e2, rfl⟩, f1⟩, by simp only [RvL, Rv]; exact ⟨⟨_, e3, h2 rfl⟩, f2⟩⟩
    | false =>
      rw [h3 rfl] at e3
      match x, e3 with
      | [y], e3 =>
        simp only [RvL, and_true] at e3
        exact ⟨y :: xs, ⟨h1.len.1, ⟨[y], e1, e2, y, rfl, rfl⟩, f1⟩, by simp only [RvL]; exact ⟨e3, f2⟩⟩
      | [], e3 => simp [RvL] at e3
      | _ :: _ :: _, e3 => simp [RvL] at e3
  | [], [], _ :: _, h, _ => h.elim
  | [], _ :: _, _, h, _ => h.elim
  | _ :: _, [], _, h, _ => h.elim
  | _ :: _, _ :: _, [], h, _ => h.elim

theorem shape_of {r : Reach} {n : Nat} {t : TypeId} {ks : List Kd} {v : Value} (hd : desc P n t = some ks) (h : Value.okWide P w r base t v) :
    (HB.isAgg P t = true → v = .agg (v.cells.toList).toArray) ∧ (HB.isAgg P t = false → v.cells.toList = [v]) := by
  cases n with
  | zero => simp [desc] at hd
  | succ n =>
    unfold desc at hd
    unfold HB.isAgg
    split at hd
    · rename_i hu
      obtain ⟨b, rfl⟩ := okWide_bool hu h
      rw [hu]
      exact ⟨fun h => (by cases h), fun _ => rfl⟩
    · rename_i k hu
      obtain ⟨z, rfl⟩ := okWide_int hu h
      rw [hu]
      exact ⟨fun h => (by cases h), fun _ => rfl⟩
    · rename_i hu
      obtain ⟨z, rfl⟩ := okWide_string hu h
      rw [hu]
      exact ⟨fun h => (by cases h), fun _ => rfl⟩
    · rename_i e hu
      obtain ⟨a, l, c, rfl⟩ := okWide_slice hu h
      rw [hu]
      exact ⟨fun h => (by cases h), fun _ => rfl⟩
    · rename_i fs hu
      obtain ⟨cs, rfl, _⟩ := okWide_struct hu h
      rw [hu]
      exact ⟨fun _ => by simp [Value.cells], fun h => by cases h⟩
    · rename_i m e hu
      have : ∃ cs, v = .agg cs := by
        unfold Value.okWide at h
        rw [hu] at h
        obtain ⟨cs, hc, _⟩ := h
        exact ⟨cs, hc⟩
      obtain ⟨cs, rfl⟩ := this
      rw [hu]
      exact ⟨fun _ => by simp [Value.cells], fun h => by cases h⟩
    · cases hd

theorem args_read {r : Reach} {n : Nat} : ∀ (ts : List TypeId) (params : List (Bool × List Kd)) (vs : List Value) (ds : List (DataW H)) (ps : List MemPlace), descAll P n ts = some params →
    (∀ (j : Nat) t v, ts[j]? = some t → vs[j]? = some v → Value.okWide P w r base t v) → DataW.TrodAll enc P w 0 spare held ts vs ds ps →
    ∃ dss, ArgsRd w params dss vs ∧ RngAll params dss
  | [], params, vs, ds, ps, hd, _, h => by
    simp only [descAll, Option.some.injEq] at hd
    subst hd
    obtain ⟨rfl, _, _⟩ := trodAll_nil h
    exact ⟨[], trivial, trivial⟩
  | t :: ts, params, vs, ds, ps, hd, hok, h => by
    unfold descAll at hd
    split at hd
    · rename_i ks l hks hl
      simp only [Option.some.injEq] at hd
      subst hd
      cases vs with
      | nil => simp [DataW.TrodAll] at h
      | cons v vs =>
        cases ds with
        | nil => simp [DataW.TrodAll] at h
        | cons d ds =>
          obtain ⟨p, q, ⟨m, hm⟩, h2, _⟩ := h
          obtain ⟨f, g1, g2⟩ := holds_of_trod n t ks hks m _ _ hm
          obtain ⟨dss, i1, i2⟩ := args_read ts l vs ds q hl (fun j t' v' ht hv => hok (j + 1) t' v' (by simpa using ht) (by simpa using hv)) h2
          obtain ⟨s1, s2⟩ := shape_of hks (hok 0 t v (by simp) (by simp))
          exact ⟨f :: dss, ⟨⟨g1, s1, s2⟩, i1⟩, g2, i2⟩
    · cases hd
end

section
variable {H : Type} {enc : TypeId × Value → H} {P : Program}

theorem said {fnum : FuncId} {f : Func} {s : ChangeSpec} {fresh handsOn again : Bool} {n : Nat} {params : List (Bool × List Kd)} {tb : TypeId}
    (hE : ∀ ro, CX.EnvOk (cxE ro) P) (hpure : ∀ ro, PureC0 (cxE ro) fnum ⟨params, [(false, [.bool])], false⟩ (RngAll params) trueRes) (hd : descAll P n f.params.toList = some params) (hl : laidOutB P = true)
    (hr : (f.params.toList.all fun t => P.readableRec t && decide (t < P.types.size)) = true) (hres : f.resultTypes = #[tb]) (hb : P.underlying tb = some .bool)
    (hs : ∀ ds : List (DataW H), ds.length = f.params.toList.length → s.fn H ds = ⟨[.lit (.bool true)], ds, []⟩) (hv : s.vars = []) {apart : Bool} (W : World) (base : Nat) (args : Array Value) (ds gs : List (DataW H)) (before : List MemPlace)
    (hval : ∀ (j : Nat) t v, f.params[j]? = some t → args[j]? = some v → Value.okWide P W .any base t v) (hW : DataW.Whole enc P f.params.toList s.vars apart W args.toList ds gs before) :
    Calls P fnum args W fun e W' => ∃ v, e = .returned v ∧ s.post enc P f apart fresh handsOn again W args v W' := by
  have hW' := hW
  obtain ⟨p, q, hA, hV, rfl, _, _⟩ := hW
  rw [hv] at hV
  obtain ⟨rfl, rfl⟩ := trodVars_none hV
  obtain ⟨dss, h1, h2⟩ := args_read (r := .any) (base := base) f.params.toList params args.toList ds p hd (fun j t v ht hv => hval j t v (by simpa using ht) (by simpa using hv)) hA
  have hlen := (trodAll_length hA).2
  have hfn : s.fn H (ds ++ []) = ⟨[.lit (.bool true)], ds, []⟩ := by rw [List.append_nil]; exact hs ds hlen
  obtain ⟨xs, x1, x2⟩ := args_fz (g := fun _ => none) (B := 0) (ρ := fun _ => none) (n := 0) params dss args.toList h1 h2
  obtain ⟨vs, h', nx', g', ⟨n0, hrun⟩, hresF⟩ := hpure (roOf W) dss h2 xs x1
  have hvs : vs = [.bool true] := by
    match vs, hresF with
    | [v], hresF =>
      obtain ⟨⟨x, _, e2, u, rfl, rfl⟩, _⟩ := hresF
      obtain ⟨u, e3, e4⟩ := e2 0 .bool rfl
      simp only [List.getElem?_cons_zero, Option.some.injEq] at e3
      subst e3
      simp only [FzC] at e4
      rw [e4.2]; rfl
    | [], hresF => simp [ResFz] at hresF
    | _ :: _ :: _, hresF => simp [ResFz] at hresF
  subst hvs
  have hcall := call_ro (hE (roOf W)) (w := W) (roOf_ok W) x2 (hrun n0 (Nat.le_refl _) retV)
  rw [show args.toList.toArray = args by simp] at hcall
  refine hcall.mono fun e W' h => ?_
  obtain ⟨u, ρ, m, rfl, hu, hk⟩ := h
  simp only [CX.one, Rv] at hu
  subst hu
  have hlt := hW'.lt
  simp only [List.append_nil] at hW' hlt
  refine ⟨_, rfl, CX.post_kept (pa := p) (pv := []) hW' (fun b sp hd => ?_) (fun sp hsp => ?_) (fun sp _ => ?_) (by simp) hk (ok_one hres rfl (okWide_bool_mk hb _))⟩
  · rw [hfn, hres]
    exact trodAll_mk1 (shut_bool hb _)
  · rw [hfn]
    exact HB.args_stay hl hr hA (fun x hx => HB.Kept_same hk (hlt x hx)) (fun x hx => hsp x hx)
  · rw [hfn, hv]
    rfl
end
end HX

namespace HX
open Go Go.Proofs
theorem own : ownKnob Tryz.prog.godebug = none := by kernel_rfl
theorem laid : laidOutB Tryz.prog = true := by kernel_rfl
end HX

namespace HX
open Go Go.Proofs CX

inductive Ctrs (E : CX.Env) : List Ctr → Prop
  | nil : Ctrs E []
  | cons {c : Ctr} {l : List Ctr} (h : PureC E c.f c.sg c.pre c.res) (r : Ctrs E l) : Ctrs E (c :: l)

theorem Ctrs.find {E : CX.Env} : ∀ {l : List Ctr}, Ctrs E l → ∀ {f : Nat} {sg : Sig}, sigL (sigs l) f = some sg → PureC E f sg (preOf l f) (resOf l f)
  | [], _, f, sg, h => by simp [sigL, sigs, look] at h
  | c :: l, .cons h1 h2, f, sg, h => by
    simp only [sigL, sigs, List.map_cons] at h
    rw [look_cons] at h
    split at h
    · rename_i e
      simp only [Option.some.injEq] at h
      subst e h
      have e1 : preOf (c :: l) c.f = c.pre := by funext ds; simp [preOf, ctrOf]
      have e2 : resOf (c :: l) c.f = c.res := by funext ds; simp [resOf, ctrOf]
      rw [e1, e2]; exact h1
    · rename_i e
      have e1 : preOf (c :: l) f = preOf l f := by funext ds; simp [preOf, ctrOf, e]
      have e2 : resOf (c :: l) f = resOf l f := by funext ds; simp [resOf, ctrOf, e]
      rw [e1, e2]
      exact h2.find h

theorem envL {ro : Addr → Option V} {l : List Ctr} (h : Ctrs (cxE ro) l) : EnvOk ⟨Ar.std, cxE ro, ksF, sigL (sigs l), preOf l, resOf l⟩ := hxEnv fun _ _ hs => h.find hs
end HX

namespace HX
open Go Go.Proofs CX

def wI (r : List D) : Int := (r.getD 0 .nil).int
theorem gt_wI (l : Rows) (q : Nat) : (gt l q 0).int = wI (l.getD q []) := rfl
theorem drop_row {l : Rows} {q : Nat} (h : q < l.length) : l.drop q = l.getD q [] :: l.drop (q + 1) := by
  rw [List.drop_eq_getElem_cons h, List.getD_eq_getElem?_getD, List.getElem?_eq_getElem h]; rfl
theorem row_mem {l : Rows} {q : Nat} (h : q < l.length) : l.getD q [] ∈ l := by
  rw [List.getD_eq_getElem?_getD, List.getElem?_eq_getElem h]; exact List.getElem_mem h
theorem mem_row {l : Rows} {r : List D} (h : r ∈ l) : ∃ q, q < l.length ∧ l.getD q [] = r := by
  obtain ⟨q, hq, e⟩ := List.getElem_of_mem h
  exact ⟨q, hq, by rw [List.getD_eq_getElem?_getD, List.getElem?_eq_getElem hq]; exact e⟩
theorem drop_end {l : Rows} {q : Nat} (h : ¬ (q : Int) < ((l.length : Nat) : Int)) : l.drop q = [] := List.drop_of_length_le (by omega)
def rI (r : List D) : Int := (r.getD 1 .nil).int
theorem gt_rI (l : Rows) (q : Nat) : (gt l q 1).int = rI (l.getD q []) := rfl

def crE (b r : Int) : Int := if (0 ≤ b ∧ b ≤ 65536) ∧ 0 ≤ r ∧ r ≤ 1024 then 0 else 3
theorem crE_0 {b r : Int} : crE b r = 0 ↔ (0 ≤ b ∧ b ≤ 65536) ∧ 0 ≤ r ∧ r ≤ 1024 := by
  unfold crE
  split
  · exact ⟨fun _ => by assumption, fun _ => rfl⟩
  · exact ⟨fun h => (by cases h), fun h => (by contradiction)⟩
theorem crE_ne {b r : Int} (h : ¬ crE b r = 0) : crE b r = 3 := by
  unfold crE at h ⊢
  split at h
  · exact absurd rfl h
  · rw [if_neg (by assumption)]
def okC (l : Rows) : Prop := ∀ x ∈ l, crE (wI x) (rI x) = 0
open Classical in
noncomputable def allE (l : Rows) : Int := if okC l then 0 else 3
theorem allE_0 {l : Rows} : allE l = 0 ↔ okC l := by
  unfold allE
  split
  · exact ⟨fun _ => by assumption, fun _ => rfl⟩
  · exact ⟨fun h => (by cases h), fun h => (by contradiction)⟩
theorem allE_ne {l : Rows} (h : ¬ allE l = 0) : allE l = 3 := by
  unfold allE at h ⊢
  split at h
  · exact absurd rfl h
  · rw [if_neg (by assumption)]
def sB : Rows → Int
  | [] => 0
  | x :: l => wI x + sB l
def sR : Rows → Int
  | [] => 0
  | x :: l => rI x + sR l
theorem sB_drop {l : Rows} {q : Nat} (h : q < l.length) : sB (l.drop q) = wI (l.getD q []) + sB (l.drop (q + 1)) := by rw [drop_row h]; rfl
theorem sR_drop {l : Rows} {q : Nat} (h : q < l.length) : sR (l.drop q) = rI (l.getD q []) + sR (l.drop (q + 1)) := by rw [drop_row h]; rfl
theorem okC_row {l : Rows} (h : okC l) {q : Nat} (hq : q < l.length) : (0 ≤ wI (l.getD q []) ∧ wI (l.getD q []) ≤ 65536) ∧ 0 ≤ rI (l.getD q []) ∧ rI (l.getD q []) ≤ 1024 := crE_0.1 (h _ (row_mem hq))
theorem sB_nonneg : ∀ {l : Rows}, okC l → 0 ≤ sB l ∧ 0 ≤ sR l
  | [], _ => ⟨by simp [sB], by simp [sR]⟩
  | x :: l, h => by
    have h1 := crE_0.1 (h x (.head _))
    have h2 := sB_nonneg (l := l) fun y hy => h y (.tail _ hy)
    simp only [sB, sR]
    omega
theorem okC_drop {l : Rows} (h : okC l) (q : Nat) : okC (l.drop q) := fun x hx => h x (List.drop_subset _ _ hx)
end HX

namespace HX
open Go Go.Proofs CX
structure V11 (a0_0 : Int) (a0_1 : Int) (R : Nat → Nat → D)  : Prop where
  g0 : R 0 0 = D.i a0_0
  g1 : R 0 1 = D.i a0_1
end HX

namespace HX
open Go Go.Proofs CX
structure V13 (pre : Nat → List (List D) → Prop) (fn : Nat → List (List D) → Nat → Nat → D) (a0_0 : Int) (a0_1 : Int) (R : Nat → Nat → D)  : Prop where
  g0 : pre 48 [[D.l [[D.i a0_0, D.i a0_1]]]]
  g1 : R 0 0 = D.i (D.int (fn 48 [[D.l [[D.i a0_0, D.i a0_1]]]] 0 0))
end HX

namespace HX
open Go Go.Proofs CX
structure V14 (a0_0 : Int) (a0_1 : Int) (R : Nat → Nat → D)  : Prop where
  g0 : (a0_0 < 0) → R 0 0 = D.i 3
  g1 : (¬ a0_0 < 0) → (65536 < a0_0) → R 0 0 = D.i 3
  g2 : (¬ a0_0 < 0) → (¬ 65536 < a0_0) → (a0_1 < 0) → R 0 0 = D.i 3
  g3 : (¬ a0_0 < 0) → (¬ 65536 < a0_0) → (¬ a0_1 < 0) → (1024 < a0_1) → R 0 0 = D.i 3
  g4 : (¬ a0_0 < 0) → (¬ 65536 < a0_0) → (¬ a0_1 < 0) → (¬ 1024 < a0_1) → R 0 0 = D.i 0
end HX

namespace HX
open Go Go.Proofs CX
structure V48 (a0 : Rows) (R : Nat → Nat → D) (I0 : Int → Int → Prop) (m0 : Int → Int → Nat) : Prop where
  i0 : I0 0 0
  g1 : ∀ x0_0 x0_1, I0 x0_0 x0_1 → (x0_1 < (a0.length : Int)) → 0 ≤ x0_1
  g2 : ∀ x0_0 x0_1, I0 x0_0 x0_1 → (x0_1 < (a0.length : Int)) → x0_1 < (a0.length : Int)
  g3 : ∀ x0_0 x0_1, I0 x0_0 x0_1 → (x0_1 < (a0.length : Int)) → (((Int.toNat x0_1 : Nat) : Int)) < (a0.length : Int)
  g4 : ∀ x0_0 x0_1, I0 x0_0 x0_1 → (x0_1 < (a0.length : Int)) → ((D.int (gt a0 x0_1.toNat 0)) < 0) → R 0 0 = D.i 3
  g5 : ∀ x0_0 x0_1, I0 x0_0 x0_1 → (x0_1 < (a0.length : Int)) → (¬ (D.int (gt a0 x0_1.toNat 0)) < 0) → (65536 < (D.int (gt a0 x0_1.toNat 0))) → R 0 0 = D.i 3
  g6 : ∀ x0_0 x0_1, I0 x0_0 x0_1 → (x0_1 < (a0.length : Int)) → (¬ (D.int (gt a0 x0_1.toNat 0)) < 0) → (¬ 65536 < (D.int (gt a0 x0_1.toNat 0))) → ((D.int (gt a0 x0_1.toNat 1)) < 0) → R 0 0 = D.i 3
  g7 : ∀ x0_0 x0_1, I0 x0_0 x0_1 → (x0_1 < (a0.length : Int)) → (¬ (D.int (gt a0 x0_1.toNat 0)) < 0) → (¬ 65536 < (D.int (gt a0 x0_1.toNat 0))) → (¬ (D.int (gt a0 x0_1.toNat 1)) < 0) → (1024 < (D.int (gt a0 x0_1.toNat 1))) → R 0 0 = D.i 3
  g8 : ∀ x0_0 x0_1, I0 x0_0 x0_1 → (x0_1 < (a0.length : Int)) → (¬ (D.int (gt a0 x0_1.toNat 0)) < 0) → (¬ 65536 < (D.int (gt a0 x0_1.toNat 0))) → (¬ (D.int (gt a0 x0_1.toNat 1)) < 0) → (¬ 1024 < (D.int (gt a0 x0_1.toNat 1))) → -9223372036854775808 ≤ (x0_1 + 1) ∧ (x0_1 + 1) ≤ 9223372036854775807
  n9 : ∀ x0_0 x0_1, I0 x0_0 x0_1 → (x0_1 < (a0.length : Int)) → (¬ (D.int (gt a0 x0_1.toNat 0)) < 0) → (¬ 65536 < (D.int (gt a0 x0_1.toNat 0))) → (¬ (D.int (gt a0 x0_1.toNat 1)) < 0) → (¬ 1024 < (D.int (gt a0 x0_1.toNat 1))) → I0 x0_0 (x0_1 + 1) ∧ m0 x0_0 (x0_1 + 1) < m0 x0_0 x0_1
  g10 : ∀ x0_0 x0_1, I0 x0_0 x0_1 → (¬ x0_1 < (a0.length : Int)) → R 0 0 = D.i 0
end HX

namespace HX
open Go Go.Proofs CX
structure V53 (a0 : Rows) (R : Nat → Nat → D) (I0 : Int → Int → Int → Prop) (m0 : Int → Int → Int → Nat) : Prop where
  i0 : I0 0 0 0
  g1 : ∀ x0_0 x0_1 x0_2, I0 x0_0 x0_1 x0_2 → (x0_0 < (a0.length : Int)) → 0 ≤ x0_0
  g2 : ∀ x0_0 x0_1 x0_2, I0 x0_0 x0_1 x0_2 → (x0_0 < (a0.length : Int)) → x0_0 < (a0.length : Int)
  g3 : ∀ x0_0 x0_1 x0_2, I0 x0_0 x0_1 x0_2 → (x0_0 < (a0.length : Int)) → (((Int.toNat x0_0 : Nat) : Int)) < (a0.length : Int)
  g4 : ∀ x0_0 x0_1 x0_2, I0 x0_0 x0_1 x0_2 → (x0_0 < (a0.length : Int)) → -9223372036854775808 ≤ (x0_1 + (D.int (gt a0 x0_0.toNat 0))) ∧ (x0_1 + (D.int (gt a0 x0_0.toNat 0))) ≤ 9223372036854775807
  g5 : ∀ x0_0 x0_1 x0_2, I0 x0_0 x0_1 x0_2 → (x0_0 < (a0.length : Int)) → -9223372036854775808 ≤ (x0_2 + (D.int (gt a0 x0_0.toNat 1))) ∧ (x0_2 + (D.int (gt a0 x0_0.toNat 1))) ≤ 9223372036854775807
  g6 : ∀ x0_0 x0_1 x0_2, I0 x0_0 x0_1 x0_2 → (x0_0 < (a0.length : Int)) → -9223372036854775808 ≤ (x0_0 + 1) ∧ (x0_0 + 1) ≤ 9223372036854775807
  n7 : ∀ x0_0 x0_1 x0_2, I0 x0_0 x0_1 x0_2 → (x0_0 < (a0.length : Int)) → I0 (x0_0 + 1) (x0_1 + (D.int (gt a0 x0_0.toNat 0))) (x0_2 + (D.int (gt a0 x0_0.toNat 1))) ∧ m0 (x0_0 + 1) (x0_1 + (D.int (gt a0 x0_0.toNat 0))) (x0_2 + (D.int (gt a0 x0_0.toNat 1))) < m0 x0_0 x0_1 x0_2
  g8 : ∀ x0_0 x0_1 x0_2, I0 x0_0 x0_1 x0_2 → (¬ x0_0 < (a0.length : Int)) → R 0 0 = D.i x0_1
  g9 : ∀ x0_0 x0_1 x0_2, I0 x0_0 x0_1 x0_2 → (¬ x0_0 < (a0.length : Int)) → R 0 1 = D.i x0_2
end HX

namespace HX
open Go Go.Proofs CX
structure V20 (pre : Nat → List (List D) → Prop) (fn : Nat → List (List D) → Nat → Nat → D) (a0 : Rows) (R : Nat → Nat → D)  : Prop where
  g0 : pre 48 [[D.l a0]]
  g1 : (¬ (D.int (fn 48 [[D.l a0]] 0 0)) = 0) → R 0 0 = D.i 0
  g2 : (¬ (D.int (fn 48 [[D.l a0]] 0 0)) = 0) → R 0 1 = D.i 0
  g3 : (¬ (D.int (fn 48 [[D.l a0]] 0 0)) = 0) → R 1 0 = D.i (D.int (fn 48 [[D.l a0]] 0 0))
  g4 : ((D.int (fn 48 [[D.l a0]] 0 0)) = 0) → pre 53 [[D.l a0]]
  g5 : ((D.int (fn 48 [[D.l a0]] 0 0)) = 0) → pre 13 [[D.i (D.int (fn 53 [[D.l a0]] 0 0)), D.i (D.int (fn 53 [[D.l a0]] 0 1))]]
  g6 : ((D.int (fn 48 [[D.l a0]] 0 0)) = 0) → (¬ (D.int (fn 13 [[D.i (D.int (fn 53 [[D.l a0]] 0 0)), D.i (D.int (fn 53 [[D.l a0]] 0 1))]] 0 0)) = 0) → R 0 0 = D.i 0
  g7 : ((D.int (fn 48 [[D.l a0]] 0 0)) = 0) → (¬ (D.int (fn 13 [[D.i (D.int (fn 53 [[D.l a0]] 0 0)), D.i (D.int (fn 53 [[D.l a0]] 0 1))]] 0 0)) = 0) → R 0 1 = D.i 0
  g8 : ((D.int (fn 48 [[D.l a0]] 0 0)) = 0) → (¬ (D.int (fn 13 [[D.i (D.int (fn 53 [[D.l a0]] 0 0)), D.i (D.int (fn 53 [[D.l a0]] 0 1))]] 0 0)) = 0) → R 1 0 = D.i (D.int (fn 13 [[D.i (D.int (fn 53 [[D.l a0]] 0 0)), D.i (D.int (fn 53 [[D.l a0]] 0 1))]] 0 0))
  g9 : ((D.int (fn 48 [[D.l a0]] 0 0)) = 0) → ((D.int (fn 13 [[D.i (D.int (fn 53 [[D.l a0]] 0 0)), D.i (D.int (fn 53 [[D.l a0]] 0 1))]] 0 0)) = 0) → R 0 0 = D.i (D.int (fn 53 [[D.l a0]] 0 0))
  g10 : ((D.int (fn 48 [[D.l a0]] 0 0)) = 0) → ((D.int (fn 13 [[D.i (D.int (fn 53 [[D.l a0]] 0 0)), D.i (D.int (fn 53 [[D.l a0]] 0 1))]] 0 0)) = 0) → R 0 1 = D.i (D.int (fn 53 [[D.l a0]] 0 1))
  g11 : ((D.int (fn 48 [[D.l a0]] 0 0)) = 0) → ((D.int (fn 13 [[D.i (D.int (fn 53 [[D.l a0]] 0 0)), D.i (D.int (fn 53 [[D.l a0]] 0 1))]] 0 0)) = 0) → R 1 0 = D.i 0
end HX

namespace HX
open Go Go.Proofs CX
structure V21 (pre : Nat → List (List D) → Prop) (fn : Nat → List (List D) → Nat → Nat → D) (a0 : Rows) (R : Nat → Nat → D) (I0 : Int → Prop) (m0 : Int → Nat) (I1 : Int → Int → Int → Int → Prop) (m1 : Int → Int → Int → Int → Nat) : Prop where
  i0 : I0 0
  g1 : ∀ x0_0, I0 x0_0 → (x0_0 < (a0.length : Int)) → 0 ≤ x0_0
  g2 : ∀ x0_0, I0 x0_0 → (x0_0 < (a0.length : Int)) → x0_0 < (a0.length : Int)
  g3 : ∀ x0_0, I0 x0_0 → (x0_0 < (a0.length : Int)) → (((Int.toNat x0_0 : Nat) : Int)) < (a0.length : Int)
  g4 : ∀ x0_0, I0 x0_0 → (x0_0 < (a0.length : Int)) → pre 14 [[D.i (D.int (gt a0 x0_0.toNat 0)), D.i (D.int (gt a0 x0_0.toNat 1))]]
  g5 : ∀ x0_0, I0 x0_0 → (x0_0 < (a0.length : Int)) → (¬ (D.int (fn 14 [[D.i (D.int (gt a0 x0_0.toNat 0)), D.i (D.int (gt a0 x0_0.toNat 1))]] 0 0)) = 0) → R 0 0 = D.i 0
  g6 : ∀ x0_0, I0 x0_0 → (x0_0 < (a0.length : Int)) → (¬ (D.int (fn 14 [[D.i (D.int (gt a0 x0_0.toNat 0)), D.i (D.int (gt a0 x0_0.toNat 1))]] 0 0)) = 0) → R 0 1 = D.i 0
  g7 : ∀ x0_0, I0 x0_0 → (x0_0 < (a0.length : Int)) → (¬ (D.int (fn 14 [[D.i (D.int (gt a0 x0_0.toNat 0)), D.i (D.int (gt a0 x0_0.toNat 1))]] 0 0)) = 0) → R 1 0 = D.i (D.int (fn 14 [[D.i (D.int (gt a0 x0_0.toNat 0)), D.i (D.int (gt a0 x0_0.toNat 1))]] 0 0))
  g8 : ∀ x0_0, I0 x0_0 → (x0_0 < (a0.length : Int)) → ((D.int (fn 14 [[D.i (D.int (gt a0 x0_0.toNat 0)), D.i (D.int (gt a0 x0_0.toNat 1))]] 0 0)) = 0) → -9223372036854775808 ≤ (x0_0 + 1) ∧ (x0_0 + 1) ≤ 9223372036854775807
  n9 : ∀ x0_0, I0 x0_0 → (x0_0 < (a0.length : Int)) → ((D.int (fn 14 [[D.i (D.int (gt a0 x0_0.toNat 0)), D.i (D.int (gt a0 x0_0.toNat 1))]] 0 0)) = 0) → I0 (x0_0 + 1) ∧ m0 (x0_0 + 1) < m0 x0_0
  i1 : ∀ x0_0, I0 x0_0 → (¬ x0_0 < (a0.length : Int)) → I1 x0_0 0 0 0
  g11 : ∀ x0_0, I0 x0_0 → ∀ x1_0 x1_1 x1_2, I1 x0_0 x1_0 x1_1 x1_2 → (¬ x0_0 < (a0.length : Int)) → (x1_0 < (a0.length : Int)) → 0 ≤ x1_0
  g12 : ∀ x0_0, I0 x0_0 → ∀ x1_0 x1_1 x1_2, I1 x0_0 x1_0 x1_1 x1_2 → (¬ x0_0 < (a0.length : Int)) → (x1_0 < (a0.length : Int)) → x1_0 < (a0.length : Int)
  g13 : ∀ x0_0, I0 x0_0 → ∀ x1_0 x1_1 x1_2, I1 x0_0 x1_0 x1_1 x1_2 → (¬ x0_0 < (a0.length : Int)) → (x1_0 < (a0.length : Int)) → (((Int.toNat x1_0 : Nat) : Int)) < (a0.length : Int)
  g14 : ∀ x0_0, I0 x0_0 → ∀ x1_0 x1_1 x1_2, I1 x0_0 x1_0 x1_1 x1_2 → (¬ x0_0 < (a0.length : Int)) → (x1_0 < (a0.length : Int)) → -9223372036854775808 ≤ (x1_1 + (D.int (gt a0 x1_0.toNat 0))) ∧ (x1_1 + (D.int (gt a0 x1_0.toNat 0))) ≤ 9223372036854775807
  g18 : ∀ x0_0, I0 x0_0 → ∀ x1_0 x1_1 x1_2, I1 x0_0 x1_0 x1_1 x1_2 → (¬ x0_0 < (a0.length : Int)) → (x1_0 < (a0.length : Int)) → -9223372036854775808 ≤ (x1_2 + (D.int (gt a0 x1_0.toNat 1))) ∧ (x1_2 + (D.int (gt a0 x1_0.toNat 1))) ≤ 9223372036854775807
  g19 : ∀ x0_0, I0 x0_0 → ∀ x1_0 x1_1 x1_2, I1 x0_0 x1_0 x1_1 x1_2 → (¬ x0_0 < (a0.length : Int)) → (x1_0 < (a0.length : Int)) → pre 14 [[D.i (x1_1 + (D.int (gt a0 x1_0.toNat 0))), D.i (x1_2 + (D.int (gt a0 x1_0.toNat 1)))]]
  g20 : ∀ x0_0, I0 x0_0 → ∀ x1_0 x1_1 x1_2, I1 x0_0 x1_0 x1_1 x1_2 → (¬ x0_0 < (a0.length : Int)) → (x1_0 < (a0.length : Int)) → (¬ (D.int (fn 14 [[D.i (x1_1 + (D.int (gt a0 x1_0.toNat 0))), D.i (x1_2 + (D.int (gt a0 x1_0.toNat 1)))]] 0 0)) = 0) → R 0 0 = D.i 0
  g21 : ∀ x0_0, I0 x0_0 → ∀ x1_0 x1_1 x1_2, I1 x0_0 x1_0 x1_1 x1_2 → (¬ x0_0 < (a0.length : Int)) → (x1_0 < (a0.length : Int)) → (¬ (D.int (fn 14 [[D.i (x1_1 + (D.int (gt a0 x1_0.toNat 0))), D.i (x1_2 + (D.int (gt a0 x1_0.toNat 1)))]] 0 0)) = 0) → R 0 1 = D.i 0
  g22 : ∀ x0_0, I0 x0_0 → ∀ x1_0 x1_1 x1_2, I1 x0_0 x1_0 x1_1 x1_2 → (¬ x0_0 < (a0.length : Int)) → (x1_0 < (a0.length : Int)) → (¬ (D.int (fn 14 [[D.i (x1_1 + (D.int (gt a0 x1_0.toNat 0))), D.i (x1_2 + (D.int (gt a0 x1_0.toNat 1)))]] 0 0)) = 0) → R 1 0 = D.i (D.int (fn 14 [[D.i (x1_1 + (D.int (gt a0 x1_0.toNat 0))), D.i (x1_2 + (D.int (gt a0 x1_0.toNat 1)))]] 0 0))
  g23 : ∀ x0_0, I0 x0_0 → ∀ x1_0 x1_1 x1_2, I1 x0_0 x1_0 x1_1 x1_2 → (¬ x0_0 < (a0.length : Int)) → (x1_0 < (a0.length : Int)) → ((D.int (fn 14 [[D.i (x1_1 + (D.int (gt a0 x1_0.toNat 0))), D.i (x1_2 + (D.int (gt a0 x1_0.toNat 1)))]] 0 0)) = 0) → -9223372036854775808 ≤ (x1_0 + 1) ∧ (x1_0 + 1) ≤ 9223372036854775807
  n24 : ∀ x0_0, I0 x0_0 → ∀ x1_0 x1_1 x1_2, I1 x0_0 x1_0 x1_1 x1_2 → (¬ x0_0 < (a0.length : Int)) → (x1_0 < (a0.length : Int)) → ((D.int (fn 14 [[D.i (x1_1 + (D.int (gt a0 x1_0.toNat 0))), D.i (x1_2 + (D.int (gt a0 x1_0.toNat 1)))]] 0 0)) = 0) → I1 x0_0 (x1_0 + 1) (x1_1 + (D.int (gt a0 x1_0.toNat 0))) (x1_2 + (D.int (gt a0 x1_0.toNat 1))) ∧ m1 x0_0 (x1_0 + 1) (x1_1 + (D.int (gt a0 x1_0.toNat 0))) (x1_2 + (D.int (gt a0 x1_0.toNat 1))) < m1 x0_0 x1_0 x1_1 x1_2
  g25 : ∀ x0_0, I0 x0_0 → ∀ x1_0 x1_1 x1_2, I1 x0_0 x1_0 x1_1 x1_2 → (¬ x0_0 < (a0.length : Int)) → (¬ x1_0 < (a0.length : Int)) → R 0 0 = D.i x1_1
  g26 : ∀ x0_0, I0 x0_0 → ∀ x1_0 x1_1 x1_2, I1 x0_0 x1_0 x1_1 x1_2 → (¬ x0_0 < (a0.length : Int)) → (¬ x1_0 < (a0.length : Int)) → R 0 1 = D.i x1_2
  g27 : ∀ x0_0, I0 x0_0 → ∀ x1_0 x1_1 x1_2, I1 x0_0 x1_0 x1_1 x1_2 → (¬ x0_0 < (a0.length : Int)) → (¬ x1_0 < (a0.length : Int)) → R 1 0 = D.i 0
end HX

namespace HX
open Go Go.Proofs CX
structure V22 (pre : Nat → List (List D) → Prop) (fn : Nat → List (List D) → Nat → Nat → D) (a0_0 : Int) (a0_1 : Int) (a1_0 : Int) (a1_1 : Int) (R : Nat → Nat → D)  : Prop where
  g0 : pre 48 [[D.l [[D.i a0_0, D.i a0_1], [D.i a1_0, D.i a1_1]]]]
  g1 : (¬ (D.int (fn 48 [[D.l [[D.i a0_0, D.i a0_1], [D.i a1_0, D.i a1_1]]]] 0 0)) = 0) → R 0 0 = D.i 0
  g2 : (¬ (D.int (fn 48 [[D.l [[D.i a0_0, D.i a0_1], [D.i a1_0, D.i a1_1]]]] 0 0)) = 0) → R 1 0 = D.i 0
  g3 : (¬ (D.int (fn 48 [[D.l [[D.i a0_0, D.i a0_1], [D.i a1_0, D.i a1_1]]]] 0 0)) = 0) → R 2 0 = D.i (D.int (fn 48 [[D.l [[D.i a0_0, D.i a0_1], [D.i a1_0, D.i a1_1]]]] 0 0))
  g4 : ((D.int (fn 48 [[D.l [[D.i a0_0, D.i a0_1], [D.i a1_0, D.i a1_1]]]] 0 0)) = 0) → pre 53 [[D.l [[D.i a0_0, D.i a0_1], [D.i a1_0, D.i a1_1]]]]
  g5 : ((D.int (fn 48 [[D.l [[D.i a0_0, D.i a0_1], [D.i a1_0, D.i a1_1]]]] 0 0)) = 0) → (1024 < (D.int (fn 53 [[D.l [[D.i a0_0, D.i a0_1], [D.i a1_0, D.i a1_1]]]] 0 1))) → R 0 0 = D.i 0
  g6 : ((D.int (fn 48 [[D.l [[D.i a0_0, D.i a0_1], [D.i a1_0, D.i a1_1]]]] 0 0)) = 0) → (1024 < (D.int (fn 53 [[D.l [[D.i a0_0, D.i a0_1], [D.i a1_0, D.i a1_1]]]] 0 1))) → R 1 0 = D.i 0
  g7 : ((D.int (fn 48 [[D.l [[D.i a0_0, D.i a0_1], [D.i a1_0, D.i a1_1]]]] 0 0)) = 0) → (1024 < (D.int (fn 53 [[D.l [[D.i a0_0, D.i a0_1], [D.i a1_0, D.i a1_1]]]] 0 1))) → R 2 0 = D.i 21
  g8 : ((D.int (fn 48 [[D.l [[D.i a0_0, D.i a0_1], [D.i a1_0, D.i a1_1]]]] 0 0)) = 0) → (¬ 1024 < (D.int (fn 53 [[D.l [[D.i a0_0, D.i a0_1], [D.i a1_0, D.i a1_1]]]] 0 1))) → (a1_1 = 1024) → R 0 0 = D.i 0
  g9 : ((D.int (fn 48 [[D.l [[D.i a0_0, D.i a0_1], [D.i a1_0, D.i a1_1]]]] 0 0)) = 0) → (¬ 1024 < (D.int (fn 53 [[D.l [[D.i a0_0, D.i a0_1], [D.i a1_0, D.i a1_1]]]] 0 1))) → (a1_1 = 1024) → R 1 0 = D.i 0
  g10 : ((D.int (fn 48 [[D.l [[D.i a0_0, D.i a0_1], [D.i a1_0, D.i a1_1]]]] 0 0)) = 0) → (¬ 1024 < (D.int (fn 53 [[D.l [[D.i a0_0, D.i a0_1], [D.i a1_0, D.i a1_1]]]] 0 1))) → (a1_1 = 1024) → R 2 0 = D.i 21
  g11 : ((D.int (fn 48 [[D.l [[D.i a0_0, D.i a0_1], [D.i a1_0, D.i a1_1]]]] 0 0)) = 0) → (¬ 1024 < (D.int (fn 53 [[D.l [[D.i a0_0, D.i a0_1], [D.i a1_0, D.i a1_1]]]] 0 1))) → (¬ a1_1 = 1024) → -9223372036854775808 ≤ (a0_0 + a0_1) ∧ (a0_0 + a0_1) ≤ 9223372036854775807
  g12 : ((D.int (fn 48 [[D.l [[D.i a0_0, D.i a0_1], [D.i a1_0, D.i a1_1]]]] 0 0)) = 0) → (¬ 1024 < (D.int (fn 53 [[D.l [[D.i a0_0, D.i a0_1], [D.i a1_0, D.i a1_1]]]] 0 1))) → (¬ a1_1 = 1024) → ((a0_0 + a0_1) < 1024) → R 0 0 = D.i 0
  g13 : ((D.int (fn 48 [[D.l [[D.i a0_0, D.i a0_1], [D.i a1_0, D.i a1_1]]]] 0 0)) = 0) → (¬ 1024 < (D.int (fn 53 [[D.l [[D.i a0_0, D.i a0_1], [D.i a1_0, D.i a1_1]]]] 0 1))) → (¬ a1_1 = 1024) → ((a0_0 + a0_1) < 1024) → R 1 0 = D.i 0
  g14 : ((D.int (fn 48 [[D.l [[D.i a0_0, D.i a0_1], [D.i a1_0, D.i a1_1]]]] 0 0)) = 0) → (¬ 1024 < (D.int (fn 53 [[D.l [[D.i a0_0, D.i a0_1], [D.i a1_0, D.i a1_1]]]] 0 1))) → (¬ a1_1 = 1024) → ((a0_0 + a0_1) < 1024) → R 2 0 = D.i 0
  g15 : ((D.int (fn 48 [[D.l [[D.i a0_0, D.i a0_1], [D.i a1_0, D.i a1_1]]]] 0 0)) = 0) → (¬ 1024 < (D.int (fn 53 [[D.l [[D.i a0_0, D.i a0_1], [D.i a1_0, D.i a1_1]]]] 0 1))) → (¬ a1_1 = 1024) → (¬ (a0_0 + a0_1) < 1024) → -9223372036854775808 ≤ ((D.int (fn 53 [[D.l [[D.i a0_0, D.i a0_1], [D.i a1_0, D.i a1_1]]]] 0 0)) + a0_1) ∧ ((D.int (fn 53 [[D.l [[D.i a0_0, D.i a0_1], [D.i a1_0, D.i a1_1]]]] 0 0)) + a0_1) ≤ 9223372036854775807
  g16 : ((D.int (fn 48 [[D.l [[D.i a0_0, D.i a0_1], [D.i a1_0, D.i a1_1]]]] 0 0)) = 0) → (¬ 1024 < (D.int (fn 53 [[D.l [[D.i a0_0, D.i a0_1], [D.i a1_0, D.i a1_1]]]] 0 1))) → (¬ a1_1 = 1024) → (¬ (a0_0 + a0_1) < 1024) → -9223372036854775808 ≤ (((D.int (fn 53 [[D.l [[D.i a0_0, D.i a0_1], [D.i a1_0, D.i a1_1]]]] 0 0)) + a0_1) - 1024) ∧ (((D.int (fn 53 [[D.l [[D.i a0_0, D.i a0_1], [D.i a1_0, D.i a1_1]]]] 0 0)) + a0_1) - 1024) ≤ 9223372036854775807
  g17 : ((D.int (fn 48 [[D.l [[D.i a0_0, D.i a0_1], [D.i a1_0, D.i a1_1]]]] 0 0)) = 0) → (¬ 1024 < (D.int (fn 53 [[D.l [[D.i a0_0, D.i a0_1], [D.i a1_0, D.i a1_1]]]] 0 1))) → (¬ a1_1 = 1024) → (¬ (a0_0 + a0_1) < 1024) → -9223372036854775808 ≤ (1024 - a1_1) ∧ (1024 - a1_1) ≤ 9223372036854775807
  g18 : ((D.int (fn 48 [[D.l [[D.i a0_0, D.i a0_1], [D.i a1_0, D.i a1_1]]]] 0 0)) = 0) → (¬ 1024 < (D.int (fn 53 [[D.l [[D.i a0_0, D.i a0_1], [D.i a1_0, D.i a1_1]]]] 0 1))) → (¬ a1_1 = 1024) → (¬ (a0_0 + a0_1) < 1024) → (1024 - a1_1) ≠ 0
  g19 : ((D.int (fn 48 [[D.l [[D.i a0_0, D.i a0_1], [D.i a1_0, D.i a1_1]]]] 0 0)) = 0) → (¬ 1024 < (D.int (fn 53 [[D.l [[D.i a0_0, D.i a0_1], [D.i a1_0, D.i a1_1]]]] 0 1))) → (¬ a1_1 = 1024) → (¬ (a0_0 + a0_1) < 1024) → -9223372036854775808 ≤ (Int.tdiv (((D.int (fn 53 [[D.l [[D.i a0_0, D.i a0_1], [D.i a1_0, D.i a1_1]]]] 0 0)) + a0_1) - 1024) (1024 - a1_1)) ∧ (Int.tdiv (((D.int (fn 53 [[D.l [[D.i a0_0, D.i a0_1], [D.i a1_0, D.i a1_1]]]] 0 0)) + a0_1) - 1024) (1024 - a1_1)) ≤ 9223372036854775807
  g20 : ((D.int (fn 48 [[D.l [[D.i a0_0, D.i a0_1], [D.i a1_0, D.i a1_1]]]] 0 0)) = 0) → (¬ 1024 < (D.int (fn 53 [[D.l [[D.i a0_0, D.i a0_1], [D.i a1_0, D.i a1_1]]]] 0 1))) → (¬ a1_1 = 1024) → (¬ (a0_0 + a0_1) < 1024) → -9223372036854775808 ≤ ((D.int (fn 53 [[D.l [[D.i a0_0, D.i a0_1], [D.i a1_0, D.i a1_1]]]] 0 0)) + (D.int (fn 53 [[D.l [[D.i a0_0, D.i a0_1], [D.i a1_0, D.i a1_1]]]] 0 1))) ∧ ((D.int (fn 53 [[D.l [[D.i a0_0, D.i a0_1], [D.i a1_0, D.i a1_1]]]] 0 0)) + (D.int (fn 53 [[D.l [[D.i a0_0, D.i a0_1], [D.i a1_0, D.i a1_1]]]] 0 1))) ≤ 9223372036854775807
  g21 : ((D.int (fn 48 [[D.l [[D.i a0_0, D.i a0_1], [D.i a1_0, D.i a1_1]]]] 0 0)) = 0) → (¬ 1024 < (D.int (fn 53 [[D.l [[D.i a0_0, D.i a0_1], [D.i a1_0, D.i a1_1]]]] 0 1))) → (¬ a1_1 = 1024) → (¬ (a0_0 + a0_1) < 1024) → (1024 : Int) ≠ 0
  g22 : ((D.int (fn 48 [[D.l [[D.i a0_0, D.i a0_1], [D.i a1_0, D.i a1_1]]]] 0 0)) = 0) → (¬ 1024 < (D.int (fn 53 [[D.l [[D.i a0_0, D.i a0_1], [D.i a1_0, D.i a1_1]]]] 0 1))) → (¬ a1_1 = 1024) → (¬ (a0_0 + a0_1) < 1024) → -9223372036854775808 ≤ (Int.tdiv ((D.int (fn 53 [[D.l [[D.i a0_0, D.i a0_1], [D.i a1_0, D.i a1_1]]]] 0 0)) + (D.int (fn 53 [[D.l [[D.i a0_0, D.i a0_1], [D.i a1_0, D.i a1_1]]]] 0 1))) 1024) ∧ (Int.tdiv ((D.int (fn 53 [[D.l [[D.i a0_0, D.i a0_1], [D.i a1_0, D.i a1_1]]]] 0 0)) + (D.int (fn 53 [[D.l [[D.i a0_0, D.i a0_1], [D.i a1_0, D.i a1_1]]]] 0 1))) 1024) ≤ 9223372036854775807
  g23 : ((D.int (fn 48 [[D.l [[D.i a0_0, D.i a0_1], [D.i a1_0, D.i a1_1]]]] 0 0)) = 0) → (¬ 1024 < (D.int (fn 53 [[D.l [[D.i a0_0, D.i a0_1], [D.i a1_0, D.i a1_1]]]] 0 1))) → (¬ a1_1 = 1024) → (¬ (a0_0 + a0_1) < 1024) → R 0 0 = D.i (Int.tdiv (((D.int (fn 53 [[D.l [[D.i a0_0, D.i a0_1], [D.i a1_0, D.i a1_1]]]] 0 0)) + a0_1) - 1024) (1024 - a1_1))
  g24 : ((D.int (fn 48 [[D.l [[D.i a0_0, D.i a0_1], [D.i a1_0, D.i a1_1]]]] 0 0)) = 0) → (¬ 1024 < (D.int (fn 53 [[D.l [[D.i a0_0, D.i a0_1], [D.i a1_0, D.i a1_1]]]] 0 1))) → (¬ a1_1 = 1024) → (¬ (a0_0 + a0_1) < 1024) → R 1 0 = D.i (Int.tdiv ((D.int (fn 53 [[D.l [[D.i a0_0, D.i a0_1], [D.i a1_0, D.i a1_1]]]] 0 0)) + (D.int (fn 53 [[D.l [[D.i a0_0, D.i a0_1], [D.i a1_0, D.i a1_1]]]] 0 1))) 1024)
  g25 : ((D.int (fn 48 [[D.l [[D.i a0_0, D.i a0_1], [D.i a1_0, D.i a1_1]]]] 0 0)) = 0) → (¬ 1024 < (D.int (fn 53 [[D.l [[D.i a0_0, D.i a0_1], [D.i a1_0, D.i a1_1]]]] 0 1))) → (¬ a1_1 = 1024) → (¬ (a0_0 + a0_1) < 1024) → R 2 0 = D.i 0
end HX

namespace HX
open Go Go.Proofs CX
structure V23 (pre : Nat → List (List D) → Prop) (fn : Nat → List (List D) → Nat → Nat → D) (a0_0 : Int) (a0_1 : Int) (a1_0 : Int) (a1_1 : Int) (R : Nat → Nat → D)  : Prop where
  g0 : pre 14 [[D.i a0_0, D.i a0_1]]
  g1 : ((D.int (fn 14 [[D.i a0_0, D.i a0_1]] 0 0)) = 0) → pre 14 [[D.i a1_0, D.i a1_1]]
  g2 : ((D.int (fn 14 [[D.i a0_0, D.i a0_1]] 0 0)) = 0) → (¬ (D.int (fn 14 [[D.i a1_0, D.i a1_1]] 0 0)) = 0) → R 0 0 = D.i 0
  g3 : ((D.int (fn 14 [[D.i a0_0, D.i a0_1]] 0 0)) = 0) → (¬ (D.int (fn 14 [[D.i a1_0, D.i a1_1]] 0 0)) = 0) → R 1 0 = D.i 0
  g4 : ((D.int (fn 14 [[D.i a0_0, D.i a0_1]] 0 0)) = 0) → (¬ (D.int (fn 14 [[D.i a1_0, D.i a1_1]] 0 0)) = 0) → R 2 0 = D.i (D.int (fn 14 [[D.i a1_0, D.i a1_1]] 0 0))
  g5 : ((D.int (fn 14 [[D.i a0_0, D.i a0_1]] 0 0)) = 0) → ((D.int (fn 14 [[D.i a1_0, D.i a1_1]] 0 0)) = 0) → -9223372036854775808 ≤ (a0_1 + a1_1) ∧ (a0_1 + a1_1) ≤ 9223372036854775807
  g6 : ((D.int (fn 14 [[D.i a0_0, D.i a0_1]] 0 0)) = 0) → ((D.int (fn 14 [[D.i a1_0, D.i a1_1]] 0 0)) = 0) → (1024 < (a0_1 + a1_1)) → R 0 0 = D.i 0
  g7 : ((D.int (fn 14 [[D.i a0_0, D.i a0_1]] 0 0)) = 0) → ((D.int (fn 14 [[D.i a1_0, D.i a1_1]] 0 0)) = 0) → (1024 < (a0_1 + a1_1)) → R 1 0 = D.i 0
  g8 : ((D.int (fn 14 [[D.i a0_0, D.i a0_1]] 0 0)) = 0) → ((D.int (fn 14 [[D.i a1_0, D.i a1_1]] 0 0)) = 0) → (1024 < (a0_1 + a1_1)) → R 2 0 = D.i 21
  g9 : ((D.int (fn 14 [[D.i a0_0, D.i a0_1]] 0 0)) = 0) → ((D.int (fn 14 [[D.i a1_0, D.i a1_1]] 0 0)) = 0) → (¬ 1024 < (a0_1 + a1_1)) → (1024 ≤ a1_1) → R 0 0 = D.i 0
  g10 : ((D.int (fn 14 [[D.i a0_0, D.i a0_1]] 0 0)) = 0) → ((D.int (fn 14 [[D.i a1_0, D.i a1_1]] 0 0)) = 0) → (¬ 1024 < (a0_1 + a1_1)) → (1024 ≤ a1_1) → R 1 0 = D.i 0
  g11 : ((D.int (fn 14 [[D.i a0_0, D.i a0_1]] 0 0)) = 0) → ((D.int (fn 14 [[D.i a1_0, D.i a1_1]] 0 0)) = 0) → (¬ 1024 < (a0_1 + a1_1)) → (1024 ≤ a1_1) → R 2 0 = D.i 21
  g12 : ((D.int (fn 14 [[D.i a0_0, D.i a0_1]] 0 0)) = 0) → ((D.int (fn 14 [[D.i a1_0, D.i a1_1]] 0 0)) = 0) → (¬ 1024 < (a0_1 + a1_1)) → (¬ 1024 ≤ a1_1) → -9223372036854775808 ≤ (a0_0 + a0_1) ∧ (a0_0 + a0_1) ≤ 9223372036854775807
  g13 : ((D.int (fn 14 [[D.i a0_0, D.i a0_1]] 0 0)) = 0) → ((D.int (fn 14 [[D.i a1_0, D.i a1_1]] 0 0)) = 0) → (¬ 1024 < (a0_1 + a1_1)) → (¬ 1024 ≤ a1_1) → ((a0_0 + a0_1) < 1024) → R 0 0 = D.i 0
  g14 : ((D.int (fn 14 [[D.i a0_0, D.i a0_1]] 0 0)) = 0) → ((D.int (fn 14 [[D.i a1_0, D.i a1_1]] 0 0)) = 0) → (¬ 1024 < (a0_1 + a1_1)) → (¬ 1024 ≤ a1_1) → ((a0_0 + a0_1) < 1024) → R 1 0 = D.i 0
  g15 : ((D.int (fn 14 [[D.i a0_0, D.i a0_1]] 0 0)) = 0) → ((D.int (fn 14 [[D.i a1_0, D.i a1_1]] 0 0)) = 0) → (¬ 1024 < (a0_1 + a1_1)) → (¬ 1024 ≤ a1_1) → ((a0_0 + a0_1) < 1024) → R 2 0 = D.i 0
  g16 : ((D.int (fn 14 [[D.i a0_0, D.i a0_1]] 0 0)) = 0) → ((D.int (fn 14 [[D.i a1_0, D.i a1_1]] 0 0)) = 0) → (¬ 1024 < (a0_1 + a1_1)) → (¬ 1024 ≤ a1_1) → (¬ (a0_0 + a0_1) < 1024) → -9223372036854775808 ≤ (a0_0 + a1_0) ∧ (a0_0 + a1_0) ≤ 9223372036854775807
  g17 : ((D.int (fn 14 [[D.i a0_0, D.i a0_1]] 0 0)) = 0) → ((D.int (fn 14 [[D.i a1_0, D.i a1_1]] 0 0)) = 0) → (¬ 1024 < (a0_1 + a1_1)) → (¬ 1024 ≤ a1_1) → (¬ (a0_0 + a0_1) < 1024) → -9223372036854775808 ≤ ((a0_0 + a1_0) + a0_1) ∧ ((a0_0 + a1_0) + a0_1) ≤ 9223372036854775807
  g18 : ((D.int (fn 14 [[D.i a0_0, D.i a0_1]] 0 0)) = 0) → ((D.int (fn 14 [[D.i a1_0, D.i a1_1]] 0 0)) = 0) → (¬ 1024 < (a0_1 + a1_1)) → (¬ 1024 ≤ a1_1) → (¬ (a0_0 + a0_1) < 1024) → -9223372036854775808 ≤ (((a0_0 + a1_0) + a0_1) - 1024) ∧ (((a0_0 + a1_0) + a0_1) - 1024) ≤ 9223372036854775807
  g19 : ((D.int (fn 14 [[D.i a0_0, D.i a0_1]] 0 0)) = 0) → ((D.int (fn 14 [[D.i a1_0, D.i a1_1]] 0 0)) = 0) → (¬ 1024 < (a0_1 + a1_1)) → (¬ 1024 ≤ a1_1) → (¬ (a0_0 + a0_1) < 1024) → -9223372036854775808 ≤ (1024 - a1_1) ∧ (1024 - a1_1) ≤ 9223372036854775807
  g20 : ((D.int (fn 14 [[D.i a0_0, D.i a0_1]] 0 0)) = 0) → ((D.int (fn 14 [[D.i a1_0, D.i a1_1]] 0 0)) = 0) → (¬ 1024 < (a0_1 + a1_1)) → (¬ 1024 ≤ a1_1) → (¬ (a0_0 + a0_1) < 1024) → (1024 - a1_1) ≠ 0
  g21 : ((D.int (fn 14 [[D.i a0_0, D.i a0_1]] 0 0)) = 0) → ((D.int (fn 14 [[D.i a1_0, D.i a1_1]] 0 0)) = 0) → (¬ 1024 < (a0_1 + a1_1)) → (¬ 1024 ≤ a1_1) → (¬ (a0_0 + a0_1) < 1024) → -9223372036854775808 ≤ (Int.tdiv (((a0_0 + a1_0) + a0_1) - 1024) (1024 - a1_1)) ∧ (Int.tdiv (((a0_0 + a1_0) + a0_1) - 1024) (1024 - a1_1)) ≤ 9223372036854775807
  g22 : ((D.int (fn 14 [[D.i a0_0, D.i a0_1]] 0 0)) = 0) → ((D.int (fn 14 [[D.i a1_0, D.i a1_1]] 0 0)) = 0) → (¬ 1024 < (a0_1 + a1_1)) → (¬ 1024 ≤ a1_1) → (¬ (a0_0 + a0_1) < 1024) → -9223372036854775808 ≤ (((a0_0 + a1_0) + a0_1) + a1_1) ∧ (((a0_0 + a1_0) + a0_1) + a1_1) ≤ 9223372036854775807
  g23 : ((D.int (fn 14 [[D.i a0_0, D.i a0_1]] 0 0)) = 0) → ((D.int (fn 14 [[D.i a1_0, D.i a1_1]] 0 0)) = 0) → (¬ 1024 < (a0_1 + a1_1)) → (¬ 1024 ≤ a1_1) → (¬ (a0_0 + a0_1) < 1024) → (1024 : Int) ≠ 0
  g24 : ((D.int (fn 14 [[D.i a0_0, D.i a0_1]] 0 0)) = 0) → ((D.int (fn 14 [[D.i a1_0, D.i a1_1]] 0 0)) = 0) → (¬ 1024 < (a0_1 + a1_1)) → (¬ 1024 ≤ a1_1) → (¬ (a0_0 + a0_1) < 1024) → -9223372036854775808 ≤ (Int.tdiv (((a0_0 + a1_0) + a0_1) + a1_1) 1024) ∧ (Int.tdiv (((a0_0 + a1_0) + a0_1) + a1_1) 1024) ≤ 9223372036854775807
  g25 : ((D.int (fn 14 [[D.i a0_0, D.i a0_1]] 0 0)) = 0) → ((D.int (fn 14 [[D.i a1_0, D.i a1_1]] 0 0)) = 0) → (¬ 1024 < (a0_1 + a1_1)) → (¬ 1024 ≤ a1_1) → (¬ (a0_0 + a0_1) < 1024) → R 0 0 = D.i (Int.tdiv (((a0_0 + a1_0) + a0_1) - 1024) (1024 - a1_1))
  g26 : ((D.int (fn 14 [[D.i a0_0, D.i a0_1]] 0 0)) = 0) → ((D.int (fn 14 [[D.i a1_0, D.i a1_1]] 0 0)) = 0) → (¬ 1024 < (a0_1 + a1_1)) → (¬ 1024 ≤ a1_1) → (¬ (a0_0 + a0_1) < 1024) → R 1 0 = D.i (Int.tdiv (((a0_0 + a1_0) + a0_1) + a1_1) 1024)
  g27 : ((D.int (fn 14 [[D.i a0_0, D.i a0_1]] 0 0)) = 0) → ((D.int (fn 14 [[D.i a1_0, D.i a1_1]] 0 0)) = 0) → (¬ 1024 < (a0_1 + a1_1)) → (¬ 1024 ≤ a1_1) → (¬ (a0_0 + a0_1) < 1024) → R 2 0 = D.i 0
  g28 : (¬ (D.int (fn 14 [[D.i a0_0, D.i a0_1]] 0 0)) = 0) → (¬ (D.int (fn 14 [[D.i a0_0, D.i a0_1]] 0 0)) = 0) → R 0 0 = D.i 0
  g29 : (¬ (D.int (fn 14 [[D.i a0_0, D.i a0_1]] 0 0)) = 0) → (¬ (D.int (fn 14 [[D.i a0_0, D.i a0_1]] 0 0)) = 0) → R 1 0 = D.i 0
  g30 : (¬ (D.int (fn 14 [[D.i a0_0, D.i a0_1]] 0 0)) = 0) → (¬ (D.int (fn 14 [[D.i a0_0, D.i a0_1]] 0 0)) = 0) → R 2 0 = D.i (D.int (fn 14 [[D.i a0_0, D.i a0_1]] 0 0))
  g31 : (¬ (D.int (fn 14 [[D.i a0_0, D.i a0_1]] 0 0)) = 0) → ((D.int (fn 14 [[D.i a0_0, D.i a0_1]] 0 0)) = 0) → -9223372036854775808 ≤ (a0_1 + a1_1) ∧ (a0_1 + a1_1) ≤ 9223372036854775807
  g32 : (¬ (D.int (fn 14 [[D.i a0_0, D.i a0_1]] 0 0)) = 0) → ((D.int (fn 14 [[D.i a0_0, D.i a0_1]] 0 0)) = 0) → (1024 < (a0_1 + a1_1)) → R 0 0 = D.i 0
  g33 : (¬ (D.int (fn 14 [[D.i a0_0, D.i a0_1]] 0 0)) = 0) → ((D.int (fn 14 [[D.i a0_0, D.i a0_1]] 0 0)) = 0) → (1024 < (a0_1 + a1_1)) → R 1 0 = D.i 0
  g34 : (¬ (D.int (fn 14 [[D.i a0_0, D.i a0_1]] 0 0)) = 0) → ((D.int (fn 14 [[D.i a0_0, D.i a0_1]] 0 0)) = 0) → (1024 < (a0_1 + a1_1)) → R 2 0 = D.i 21
  g35 : (¬ (D.int (fn 14 [[D.i a0_0, D.i a0_1]] 0 0)) = 0) → ((D.int (fn 14 [[D.i a0_0, D.i a0_1]] 0 0)) = 0) → (¬ 1024 < (a0_1 + a1_1)) → (1024 ≤ a1_1) → R 0 0 = D.i 0
  g36 : (¬ (D.int (fn 14 [[D.i a0_0, D.i a0_1]] 0 0)) = 0) → ((D.int (fn 14 [[D.i a0_0, D.i a0_1]] 0 0)) = 0) → (¬ 1024 < (a0_1 + a1_1)) → (1024 ≤ a1_1) → R 1 0 = D.i 0
  g37 : (¬ (D.int (fn 14 [[D.i a0_0, D.i a0_1]] 0 0)) = 0) → ((D.int (fn 14 [[D.i a0_0, D.i a0_1]] 0 0)) = 0) → (¬ 1024 < (a0_1 + a1_1)) → (1024 ≤ a1_1) → R 2 0 = D.i 21
  g38 : (¬ (D.int (fn 14 [[D.i a0_0, D.i a0_1]] 0 0)) = 0) → ((D.int (fn 14 [[D.i a0_0, D.i a0_1]] 0 0)) = 0) → (¬ 1024 < (a0_1 + a1_1)) → (¬ 1024 ≤ a1_1) → -9223372036854775808 ≤ (a0_0 + a0_1) ∧ (a0_0 + a0_1) ≤ 9223372036854775807
  g39 : (¬ (D.int (fn 14 [[D.i a0_0, D.i a0_1]] 0 0)) = 0) → ((D.int (fn 14 [[D.i a0_0, D.i a0_1]] 0 0)) = 0) → (¬ 1024 < (a0_1 + a1_1)) → (¬ 1024 ≤ a1_1) → ((a0_0 + a0_1) < 1024) → R 0 0 = D.i 0
  g40 : (¬ (D.int (fn 14 [[D.i a0_0, D.i a0_1]] 0 0)) = 0) → ((D.int (fn 14 [[D.i a0_0, D.i a0_1]] 0 0)) = 0) → (¬ 1024 < (a0_1 + a1_1)) → (¬ 1024 ≤ a1_1) → ((a0_0 + a0_1) < 1024) → R 1 0 = D.i 0
  g41 : (¬ (D.int (fn 14 [[D.i a0_0, D.i a0_1]] 0 0)) = 0) → ((D.int (fn 14 [[D.i a0_0, D.i a0_1]] 0 0)) = 0) → (¬ 1024 < (a0_1 + a1_1)) → (¬ 1024 ≤ a1_1) → ((a0_0 + a0_1) < 1024) → R 2 0 = D.i 0
  g42 : (¬ (D.int (fn 14 [[D.i a0_0, D.i a0_1]] 0 0)) = 0) → ((D.int (fn 14 [[D.i a0_0, D.i a0_1]] 0 0)) = 0) → (¬ 1024 < (a0_1 + a1_1)) → (¬ 1024 ≤ a1_1) → (¬ (a0_0 + a0_1) < 1024) → -9223372036854775808 ≤ (a0_0 + a1_0) ∧ (a0_0 + a1_0) ≤ 9223372036854775807
  g43 : (¬ (D.int (fn 14 [[D.i a0_0, D.i a0_1]] 0 0)) = 0) → ((D.int (fn 14 [[D.i a0_0, D.i a0_1]] 0 0)) = 0) → (¬ 1024 < (a0_1 + a1_1)) → (¬ 1024 ≤ a1_1) → (¬ (a0_0 + a0_1) < 1024) → -9223372036854775808 ≤ ((a0_0 + a1_0) + a0_1) ∧ ((a0_0 + a1_0) + a0_1) ≤ 9223372036854775807
  g44 : (¬ (D.int (fn 14 [[D.i a0_0, D.i a0_1]] 0 0)) = 0) → ((D.int (fn 14 [[D.i a0_0, D.i a0_1]] 0 0)) = 0) → (¬ 1024 < (a0_1 + a1_1)) → (¬ 1024 ≤ a1_1) → (¬ (a0_0 + a0_1) < 1024) → -9223372036854775808 ≤ (((a0_0 + a1_0) + a0_1) - 1024) ∧ (((a0_0 + a1_0) + a0_1) - 1024) ≤ 9223372036854775807
  g45 : (¬ (D.int (fn 14 [[D.i a0_0, D.i a0_1]] 0 0)) = 0) → ((D.int (fn 14 [[D.i a0_0, D.i a0_1]] 0 0)) = 0) → (¬ 1024 < (a0_1 + a1_1)) → (¬ 1024 ≤ a1_1) → (¬ (a0_0 + a0_1) < 1024) → -9223372036854775808 ≤ (1024 - a1_1) ∧ (1024 - a1_1) ≤ 9223372036854775807
  g46 : (¬ (D.int (fn 14 [[D.i a0_0, D.i a0_1]] 0 0)) = 0) → ((D.int (fn 14 [[D.i a0_0, D.i a0_1]] 0 0)) = 0) → (¬ 1024 < (a0_1 + a1_1)) → (¬ 1024 ≤ a1_1) → (¬ (a0_0 + a0_1) < 1024) → (1024 - a1_1) ≠ 0
  g47 : (¬ (D.int (fn 14 [[D.i a0_0, D.i a0_1]] 0 0)) = 0) → ((D.int (fn 14 [[D.i a0_0, D.i a0_1]] 0 0)) = 0) → (¬ 1024 < (a0_1 + a1_1)) → (¬ 1024 ≤ a1_1) → (¬ (a0_0 + a0_1) < 1024) → -9223372036854775808 ≤ (Int.tdiv (((a0_0 + a1_0) + a0_1) - 1024) (1024 - a1_1)) ∧ (Int.tdiv (((a0_0 + a1_0) + a0_1) - 1024) (1024 - a1_1)) ≤ 9223372036854775807
  g48 : (¬ (D.int (fn 14 [[D.i a0_0, D.i a0_1]] 0 0)) = 0) → ((D.int (fn 14 [[D.i a0_0, D.i a0_1]] 0 0)) = 0) → (¬ 1024 < (a0_1 + a1_1)) → (¬ 1024 ≤ a1_1) → (¬ (a0_0 + a0_1) < 1024) → -9223372036854775808 ≤ (((a0_0 + a1_0) + a0_1) + a1_1) ∧ (((a0_0 + a1_0) + a0_1) + a1_1) ≤ 9223372036854775807
  g49 : (¬ (D.int (fn 14 [[D.i a0_0, D.i a0_1]] 0 0)) = 0) → ((D.int (fn 14 [[D.i a0_0, D.i a0_1]] 0 0)) = 0) → (¬ 1024 < (a0_1 + a1_1)) → (¬ 1024 ≤ a1_1) → (¬ (a0_0 + a0_1) < 1024) → (1024 : Int) ≠ 0
  g50 : (¬ (D.int (fn 14 [[D.i a0_0, D.i a0_1]] 0 0)) = 0) → ((D.int (fn 14 [[D.i a0_0, D.i a0_1]] 0 0)) = 0) → (¬ 1024 < (a0_1 + a1_1)) → (¬ 1024 ≤ a1_1) → (¬ (a0_0 + a0_1) < 1024) → -9223372036854775808 ≤ (Int.tdiv (((a0_0 + a1_0) + a0_1) + a1_1) 1024) ∧ (Int.tdiv (((a0_0 + a1_0) + a0_1) + a1_1) 1024) ≤ 9223372036854775807
  g51 : (¬ (D.int (fn 14 [[D.i a0_0, D.i a0_1]] 0 0)) = 0) → ((D.int (fn 14 [[D.i a0_0, D.i a0_1]] 0 0)) = 0) → (¬ 1024 < (a0_1 + a1_1)) → (¬ 1024 ≤ a1_1) → (¬ (a0_0 + a0_1) < 1024) → R 0 0 = D.i (Int.tdiv (((a0_0 + a1_0) + a0_1) - 1024) (1024 - a1_1))
  g52 : (¬ (D.int (fn 14 [[D.i a0_0, D.i a0_1]] 0 0)) = 0) → ((D.int (fn 14 [[D.i a0_0, D.i a0_1]] 0 0)) = 0) → (¬ 1024 < (a0_1 + a1_1)) → (¬ 1024 ≤ a1_1) → (¬ (a0_0 + a0_1) < 1024) → R 1 0 = D.i (Int.tdiv (((a0_0 + a1_0) + a0_1) + a1_1) 1024)
  g53 : (¬ (D.int (fn 14 [[D.i a0_0, D.i a0_1]] 0 0)) = 0) → ((D.int (fn 14 [[D.i a0_0, D.i a0_1]] 0 0)) = 0) → (¬ 1024 < (a0_1 + a1_1)) → (¬ 1024 ≤ a1_1) → (¬ (a0_0 + a0_1) < 1024) → R 2 0 = D.i 0
end HX

namespace HX
open Go Go.Proofs CX
structure V24 (pre : Nat → List (List D) → Prop) (fn : Nat → List (List D) → Nat → Nat → D) (a0_0 : Int) (a0_1 : Int) (a1 : Int) (R : Nat → Nat → D)  : Prop where
  g0 : pre 13 [[D.i a0_0, D.i a0_1]]
  g1 : (¬ (D.int (fn 13 [[D.i a0_0, D.i a0_1]] 0 0)) = 0) → R 0 0 = D.i 0
  g2 : (¬ (D.int (fn 13 [[D.i a0_0, D.i a0_1]] 0 0)) = 0) → R 0 1 = D.i 0
  g3 : (¬ (D.int (fn 13 [[D.i a0_0, D.i a0_1]] 0 0)) = 0) → R 1 0 = D.i (D.int (fn 13 [[D.i a0_0, D.i a0_1]] 0 0))
  g4 : ((D.int (fn 13 [[D.i a0_0, D.i a0_1]] 0 0)) = 0) → -9223372036854775808 ≤ (a0_1 * (mnI (mxI a1 0) 1048576)) ∧ (a0_1 * (mnI (mxI a1 0) 1048576)) ≤ 9223372036854775807
  g5 : ((D.int (fn 13 [[D.i a0_0, D.i a0_1]] 0 0)) = 0) → -9223372036854775808 ≤ (a0_0 + (a0_1 * (mnI (mxI a1 0) 1048576))) ∧ (a0_0 + (a0_1 * (mnI (mxI a1 0) 1048576))) ≤ 9223372036854775807
  g6 : ((D.int (fn 13 [[D.i a0_0, D.i a0_1]] 0 0)) = 0) → pre 13 [[D.i (a0_0 + (a0_1 * (mnI (mxI a1 0) 1048576))), D.i a0_1]]
  g7 : ((D.int (fn 13 [[D.i a0_0, D.i a0_1]] 0 0)) = 0) → (¬ (D.int (fn 13 [[D.i (a0_0 + (a0_1 * (mnI (mxI a1 0) 1048576))), D.i a0_1]] 0 0)) = 0) → R 0 0 = D.i 0
  g8 : ((D.int (fn 13 [[D.i a0_0, D.i a0_1]] 0 0)) = 0) → (¬ (D.int (fn 13 [[D.i (a0_0 + (a0_1 * (mnI (mxI a1 0) 1048576))), D.i a0_1]] 0 0)) = 0) → R 0 1 = D.i 0
  g9 : ((D.int (fn 13 [[D.i a0_0, D.i a0_1]] 0 0)) = 0) → (¬ (D.int (fn 13 [[D.i (a0_0 + (a0_1 * (mnI (mxI a1 0) 1048576))), D.i a0_1]] 0 0)) = 0) → R 1 0 = D.i 3
  g10 : ((D.int (fn 13 [[D.i a0_0, D.i a0_1]] 0 0)) = 0) → ((D.int (fn 13 [[D.i (a0_0 + (a0_1 * (mnI (mxI a1 0) 1048576))), D.i a0_1]] 0 0)) = 0) → (a1 < 0) → R 0 0 = D.i 0
  g11 : ((D.int (fn 13 [[D.i a0_0, D.i a0_1]] 0 0)) = 0) → ((D.int (fn 13 [[D.i (a0_0 + (a0_1 * (mnI (mxI a1 0) 1048576))), D.i a0_1]] 0 0)) = 0) → (a1 < 0) → R 0 1 = D.i 0
  g12 : ((D.int (fn 13 [[D.i a0_0, D.i a0_1]] 0 0)) = 0) → ((D.int (fn 13 [[D.i (a0_0 + (a0_1 * (mnI (mxI a1 0) 1048576))), D.i a0_1]] 0 0)) = 0) → (a1 < 0) → R 1 0 = D.i 3
  g13 : ((D.int (fn 13 [[D.i a0_0, D.i a0_1]] 0 0)) = 0) → ((D.int (fn 13 [[D.i (a0_0 + (a0_1 * (mnI (mxI a1 0) 1048576))), D.i a0_1]] 0 0)) = 0) → (¬ a1 < 0) → (1048576 < a1) → R 0 0 = D.i 0
  g14 : ((D.int (fn 13 [[D.i a0_0, D.i a0_1]] 0 0)) = 0) → ((D.int (fn 13 [[D.i (a0_0 + (a0_1 * (mnI (mxI a1 0) 1048576))), D.i a0_1]] 0 0)) = 0) → (¬ a1 < 0) → (1048576 < a1) → R 0 1 = D.i 0
  g15 : ((D.int (fn 13 [[D.i a0_0, D.i a0_1]] 0 0)) = 0) → ((D.int (fn 13 [[D.i (a0_0 + (a0_1 * (mnI (mxI a1 0) 1048576))), D.i a0_1]] 0 0)) = 0) → (¬ a1 < 0) → (1048576 < a1) → R 1 0 = D.i 3
  g16 : ((D.int (fn 13 [[D.i a0_0, D.i a0_1]] 0 0)) = 0) → ((D.int (fn 13 [[D.i (a0_0 + (a0_1 * (mnI (mxI a1 0) 1048576))), D.i a0_1]] 0 0)) = 0) → (¬ a1 < 0) → (¬ 1048576 < a1) → R 0 0 = D.i (a0_0 + (a0_1 * (mnI (mxI a1 0) 1048576)))
  g17 : ((D.int (fn 13 [[D.i a0_0, D.i a0_1]] 0 0)) = 0) → ((D.int (fn 13 [[D.i (a0_0 + (a0_1 * (mnI (mxI a1 0) 1048576))), D.i a0_1]] 0 0)) = 0) → (¬ a1 < 0) → (¬ 1048576 < a1) → R 0 1 = D.i a0_1
  g18 : ((D.int (fn 13 [[D.i a0_0, D.i a0_1]] 0 0)) = 0) → ((D.int (fn 13 [[D.i (a0_0 + (a0_1 * (mnI (mxI a1 0) 1048576))), D.i a0_1]] 0 0)) = 0) → (¬ a1 < 0) → (¬ 1048576 < a1) → R 1 0 = D.i 0
end HX

namespace HX
open Go Go.Proofs CX
structure V25 (pre : Nat → List (List D) → Prop) (fn : Nat → List (List D) → Nat → Nat → D) (a0_0 : Int) (a0_1 : Int) (a1 : Int) (R : Nat → Nat → D)  : Prop where
  g0 : pre 14 [[D.i a0_0, D.i a0_1]]
  g1 : (¬ (D.int (fn 14 [[D.i a0_0, D.i a0_1]] 0 0)) = 0) → R 0 0 = D.i 0
  g2 : (¬ (D.int (fn 14 [[D.i a0_0, D.i a0_1]] 0 0)) = 0) → R 0 1 = D.i 0
  g3 : (¬ (D.int (fn 14 [[D.i a0_0, D.i a0_1]] 0 0)) = 0) → R 1 0 = D.i (D.int (fn 14 [[D.i a0_0, D.i a0_1]] 0 0))
  g4 : ((D.int (fn 14 [[D.i a0_0, D.i a0_1]] 0 0)) = 0) → (a1 < 0) → R 0 0 = D.i 0
  g5 : ((D.int (fn 14 [[D.i a0_0, D.i a0_1]] 0 0)) = 0) → (a1 < 0) → R 0 1 = D.i 0
  g6 : ((D.int (fn 14 [[D.i a0_0, D.i a0_1]] 0 0)) = 0) → (a1 < 0) → R 1 0 = D.i 3
  g7 : ((D.int (fn 14 [[D.i a0_0, D.i a0_1]] 0 0)) = 0) → (¬ a1 < 0) → (1048576 < a1) → R 0 0 = D.i 0
  g8 : ((D.int (fn 14 [[D.i a0_0, D.i a0_1]] 0 0)) = 0) → (¬ a1 < 0) → (1048576 < a1) → R 0 1 = D.i 0
  g9 : ((D.int (fn 14 [[D.i a0_0, D.i a0_1]] 0 0)) = 0) → (¬ a1 < 0) → (1048576 < a1) → R 1 0 = D.i 3
  g10 : ((D.int (fn 14 [[D.i a0_0, D.i a0_1]] 0 0)) = 0) → (¬ a1 < 0) → (¬ 1048576 < a1) → -9223372036854775808 ≤ (a0_1 * a1) ∧ (a0_1 * a1) ≤ 9223372036854775807
  g11 : ((D.int (fn 14 [[D.i a0_0, D.i a0_1]] 0 0)) = 0) → (¬ a1 < 0) → (¬ 1048576 < a1) → -9223372036854775808 ≤ (a0_0 + (a0_1 * a1)) ∧ (a0_0 + (a0_1 * a1)) ≤ 9223372036854775807
  g12 : ((D.int (fn 14 [[D.i a0_0, D.i a0_1]] 0 0)) = 0) → (¬ a1 < 0) → (¬ 1048576 < a1) → pre 14 [[D.i (a0_0 + (a0_1 * a1)), D.i a0_1]]
  g13 : ((D.int (fn 14 [[D.i a0_0, D.i a0_1]] 0 0)) = 0) → (¬ a1 < 0) → (¬ 1048576 < a1) → (¬ (D.int (fn 14 [[D.i (a0_0 + (a0_1 * a1)), D.i a0_1]] 0 0)) = 0) → R 0 0 = D.i 0
  g14 : ((D.int (fn 14 [[D.i a0_0, D.i a0_1]] 0 0)) = 0) → (¬ a1 < 0) → (¬ 1048576 < a1) → (¬ (D.int (fn 14 [[D.i (a0_0 + (a0_1 * a1)), D.i a0_1]] 0 0)) = 0) → R 0 1 = D.i 0
  g15 : ((D.int (fn 14 [[D.i a0_0, D.i a0_1]] 0 0)) = 0) → (¬ a1 < 0) → (¬ 1048576 < a1) → (¬ (D.int (fn 14 [[D.i (a0_0 + (a0_1 * a1)), D.i a0_1]] 0 0)) = 0) → R 1 0 = D.i (D.int (fn 14 [[D.i (a0_0 + (a0_1 * a1)), D.i a0_1]] 0 0))
  g16 : ((D.int (fn 14 [[D.i a0_0, D.i a0_1]] 0 0)) = 0) → (¬ a1 < 0) → (¬ 1048576 < a1) → ((D.int (fn 14 [[D.i (a0_0 + (a0_1 * a1)), D.i a0_1]] 0 0)) = 0) → R 0 0 = D.i (a0_0 + (a0_1 * a1))
  g17 : ((D.int (fn 14 [[D.i a0_0, D.i a0_1]] 0 0)) = 0) → (¬ a1 < 0) → (¬ 1048576 < a1) → ((D.int (fn 14 [[D.i (a0_0 + (a0_1 * a1)), D.i a0_1]] 0 0)) = 0) → R 0 1 = D.i a0_1
  g18 : ((D.int (fn 14 [[D.i a0_0, D.i a0_1]] 0 0)) = 0) → (¬ a1 < 0) → (¬ 1048576 < a1) → ((D.int (fn 14 [[D.i (a0_0 + (a0_1 * a1)), D.i a0_1]] 0 0)) = 0) → R 1 0 = D.i 0
end HX

namespace HX
open Go Go.Proofs CX

theorem law11 {a0_0 a0_1 : Int} {R : Nat → Nat → D} (h0 : R 0 0 = .i a0_0) (h1 : R 0 1 = .i a0_1) : V11 a0_0 a0_1 R := by
  constructor
  · exact h0
  · exact h1

theorem law14 {a0_0 a0_1 : Int} {R : Nat → Nat → D} (hR : R 0 0 = .i (crE a0_0 a0_1)) : V14 a0_0 a0_1 R := by
  constructor
  all_goals (intros; rw [hR, crE])
  all_goals (first | rw [if_neg (by omega)] | rw [if_pos (by omega)])

theorem law48 {a0 : Rows} (hlen : a0.length ≤ 9223372036854775807) {R : Nat → Nat → D} (hR : R 0 0 = .i (allE a0)) :
    V48 a0 R (fun _ i => ∃ q : Nat, i = q ∧ q ≤ a0.length ∧ ∀ j < q, crE (wI (a0.getD j [])) (rI (a0.getD j [])) = 0) (fun _ i => (a0.length - i).toNat) := by
  constructor
  all_goals (try (intro e i hI; obtain ⟨q, hx, hq, hj⟩ := hI; subst hx))
  all_goals (intros; (try simp only [gt_wI, gt_rI, Int.toNat_natCast] at *))
  all_goals (try omega)
  case i0 => exact ⟨0, rfl, by omega, fun j hj => by omega⟩
  case n9 =>
    refine ⟨⟨q + 1, by omega, by omega, fun j h => ?_⟩, by omega⟩
    by_cases e : j = q
    · subst e; exact crE_0.2 (by omega)
    · exact hj j (by omega)
  case g10 =>
    have h : okC a0 := fun x hx => by obtain ⟨j, h1, rfl⟩ := mem_row hx; exact hj j (by omega)
    rw [hR, allE_0.2 h]
  all_goals
    have h : ¬ okC a0 := fun h => by have := okC_row h (q := q) (by omega); omega
    rw [hR, allE, if_neg h]

theorem law13 {pre : Nat → List (List D) → Prop} {fn : Nat → List (List D) → Nat → Nat → D} (hp48 : ∀ x, pre 48 x) (hf48 : ∀ l, fn 48 [[.l l]] 0 0 = .i (allE l))
    {a0_0 a0_1 : Int} {R : Nat → Nat → D} (hR : R 0 0 = .i (crE a0_0 a0_1)) : V13 pre fn a0_0 a0_1 R := by
  have hi : ∀ n : Int, (D.i n).int = n := fun _ => rfl
  constructor
  · exact hp48 _
  · rw [hR, hf48, hi]
    congr 1
    by_cases h : crE a0_0 a0_1 = 0
    · rw [h, allE_0.2 (fun x hx => by simp only [List.mem_cons, List.not_mem_nil, or_false] at hx; subst hx; exact h)]
    · rw [crE_ne h, allE_ne (fun hh => h (allE_0.1 hh [.i a0_0, .i a0_1] (by simp)))]

theorem law53 {a0 : Rows} (hok : okC a0) (hlen : a0.length ≤ 1000000) {R : Nat → Nat → D} (hR0 : R 0 0 = .i (sB a0)) (hR1 : R 0 1 = .i (sR a0)) :
    V53 a0 R (fun i s t => ∃ q : Nat, i = q ∧ q ≤ a0.length ∧ s + sB (a0.drop q) = sB a0 ∧ t + sR (a0.drop q) = sR a0 ∧ (0 ≤ s ∧ s ≤ 65536 * q) ∧ 0 ≤ t ∧ t ≤ 65536 * q) (fun i _ _ => (a0.length - i).toNat) := by
  constructor
  all_goals (try (intro i s t hI; obtain ⟨q, hx, hq, h1, h2, h3, h4⟩ := hI; subst hx))
  all_goals (intros; (try simp only [gt_wI, gt_rI, Int.toNat_natCast] at *))
  all_goals (try omega)
  case i0 => exact ⟨0, rfl, by omega, by simp, by simp, by omega, by omega⟩
  case g8 =>
    rw [drop_end (by omega)] at h1
    simp only [sB] at h1
    rw [hR0, show sB a0 = s by omega]
  case g9 =>
    rw [drop_end (by omega)] at h2
    simp only [sR] at h2
    rw [hR1, show sR a0 = t by omega]
  all_goals (have hr := okC_row hok (q := q) (by omega); have e1 := sB_drop (l := a0) (q := q) (by omega); have e2 := sR_drop (l := a0) (q := q) (by omega))
  all_goals (try omega)
  case n7 => exact ⟨⟨q + 1, by omega, by omega, by omega, by omega, by omega, by omega⟩, by omega⟩

open Classical in
noncomputable def sumE (l : Rows) : Int := if okC l then crE (sB l) (sR l) else 3
open Classical in
noncomputable def sumB (l : Rows) : Int := if sumE l = 0 then sB l else 0
open Classical in
noncomputable def sumR (l : Rows) : Int := if sumE l = 0 then sR l else 0
theorem law20 {pre : Nat → List (List D) → Prop} {fn : Nat → List (List D) → Nat → Nat → D} (hp48 : ∀ x, pre 48 x) (hf48 : ∀ l, fn 48 [[.l l]] 0 0 = .i (allE l)) (hp13 : ∀ x, pre 13 x) (hf13 : ∀ a b, fn 13 [[.i a, .i b]] 0 0 = .i (crE a b))
    (hp53 : ∀ l : Rows, okC l → l.length ≤ 1000000 → pre 53 [[.l l]]) (hf53 : ∀ l, fn 53 [[.l l]] 0 0 = .i (sB l)) (hf53' : ∀ l, fn 53 [[.l l]] 0 1 = .i (sR l))
    {a0 : Rows} (hlen : a0.length ≤ 1000000) {R : Nat → Nat → D} (hR0 : R 0 0 = .i (sumB a0)) (hR1 : R 0 1 = .i (sumR a0)) (hR2 : R 1 0 = .i (sumE a0)) : V20 pre fn a0 R := by
  have hi : ∀ n : Int, (D.i n).int = n := fun _ => rfl
  constructor
  all_goals (intros; (try simp only [hf48, hf13, hf53, hf53', hp48, hp13, hi] at *))
  case g4 => rename_i h; exact hp53 _ (allE_0.1 h) hlen
  case g1 => rename_i h; rw [hR0, sumB, sumE, if_neg (fun hh => h (allE_0.2 hh)), if_neg (by decide)]
  case g2 => rename_i h; rw [hR1, sumR, sumE, if_neg (fun hh => h (allE_0.2 hh)), if_neg (by decide)]
  case g3 => rename_i h; rw [hR2, sumE, if_neg (fun hh => h (allE_0.2 hh)), allE_ne h]
  all_goals (have hok := allE_0.1 ‹allE a0 = 0›; have hE : sumE a0 = crE (sB a0) (sR a0) := by rw [sumE, if_pos hok])
  case g6 => rw [hR0, sumB, hE, if_neg (by assumption)]
  case g7 => rw [hR1, sumR, hE, if_neg (by assumption)]
  case g8 => rw [hR2, hE]
  case g9 => rw [hR0, sumB, hE, if_pos (by assumption)]
  case g10 => rw [hR1, sumR, hE, if_pos (by assumption)]
  case g11 => rw [hR2, hE]; congr 1

theorem sum_bad {S T s t x y : Int} {l l' : Rows} (h1 : s + sB l = S) (h2 : t + sR l = T) (e1 : sB l = x + sB l') (e2 : sR l = y + sR l') (hn : 0 ≤ sB l' ∧ 0 ≤ sR l') (h3 : (0 ≤ s ∧ s ≤ 65536) ∧ 0 ≤ t ∧ t ≤ 1024) (hr : (0 ≤ x ∧ x ≤ 65536) ∧ 0 ≤ y ∧ y ≤ 1024) (h : ¬ crE (s + x) (t + y) = 0) : ¬ crE S T = 0 := fun h' => by
  have h4 := crE_0.1 h'
  rw [crE_0] at h
  omega

theorem law21 {pre : Nat → List (List D) → Prop} {fn : Nat → List (List D) → Nat → Nat → D} (hp14 : ∀ x, pre 14 x) (hf14 : ∀ a b, fn 14 [[.i a, .i b]] 0 0 = .i (crE a b))
    {a0 : Rows} (hlen : a0.length ≤ 1000000) {R : Nat → Nat → D} (hR0 : R 0 0 = .i (sumB a0)) (hR1 : R 0 1 = .i (sumR a0)) (hR2 : R 1 0 = .i (sumE a0)) :
    V21 pre fn a0 R (fun i => ∃ q : Nat, i = q ∧ q ≤ a0.length ∧ ∀ j < q, crE (wI (a0.getD j [])) (rI (a0.getD j [])) = 0) (fun i => (a0.length - i).toNat)
      (fun _ i s t => ∃ q : Nat, i = q ∧ q ≤ a0.length ∧ s + sB (a0.drop q) = sB a0 ∧ t + sR (a0.drop q) = sR a0 ∧ crE s t = 0) (fun _ i _ _ => (a0.length - i).toNat) := by
  have hi : ∀ n : Int, (D.i n).int = n := fun _ => rfl
  constructor
  all_goals (try (intro i0 hI; obtain ⟨q0, hx, hq0, hj⟩ := hI; subst hx))
  all_goals (try (intro i s t hI; obtain ⟨q, hx, hq, h1, h2, h3⟩ := hI; subst hx))
  all_goals (intros; (try simp only [hf14, hp14, hi, gt_wI, gt_rI, Int.toNat_natCast] at *))
  all_goals (try omega)
  case i0 => exact ⟨0, rfl, by omega, fun j hj => by omega⟩
  case n9 =>
    refine ⟨⟨q0 + 1, by omega, by omega, fun j h => ?_⟩, by omega⟩
    by_cases e : j = q0
    · subst e; assumption
    · exact hj j (by omega)
  case g5 =>
    have hb := ‹¬ crE (wI (a0.getD q0 [])) (rI (a0.getD q0 [])) = 0›
    have h3 : sumE a0 = 3 := by rw [sumE, if_neg (fun hh => hb (hh _ (row_mem (by omega))))]
    rw [hR0, sumB, if_neg (by rw [h3]; decide)]
  case g6 =>
    have hb := ‹¬ crE (wI (a0.getD q0 [])) (rI (a0.getD q0 [])) = 0›
    have h3 : sumE a0 = 3 := by rw [sumE, if_neg (fun hh => hb (hh _ (row_mem (by omega))))]
    rw [hR1, sumR, if_neg (by rw [h3]; decide)]
  case g7 =>
    have hb := ‹¬ crE (wI (a0.getD q0 [])) (rI (a0.getD q0 [])) = 0›
    rw [hR2, sumE, if_neg (fun hh => hb (hh _ (row_mem (by omega)))), crE_ne hb]
  all_goals (have hok : okC a0 := fun x hx => by obtain ⟨j, h1, rfl⟩ := mem_row hx; exact hj j (by omega))
  all_goals (have hE : sumE a0 = crE (sB a0) (sR a0) := by rw [sumE, if_pos hok])
  case i1 => exact ⟨0, rfl, by omega, by simp, by simp, by decide⟩
  case g25 =>
    rw [drop_end (by omega)] at h1 h2
    simp only [sB, sR] at h1 h2
    rw [hR0, sumB, hE, ← h1, ← h2, if_pos (by simpa using h3)]; congr 1; omega
  case g26 =>
    rw [drop_end (by omega)] at h1 h2
    simp only [sB, sR] at h1 h2
    rw [hR1, sumR, hE, ← h1, ← h2, if_pos (by simpa using h3)]; congr 1; omega
  case g27 =>
    rw [drop_end (by omega)] at h1 h2
    simp only [sB, sR] at h1 h2
    rw [hR2, hE, ← h1, ← h2]; congr 1; simpa using h3
  all_goals (have hr := okC_row hok (q := q) (by omega); have e1 := sB_drop (l := a0) (q := q) (by omega); have e2 := sR_drop (l := a0) (q := q) (by omega); have h3' := crE_0.1 h3; have hn := sB_nonneg (okC_drop hok (q + 1)))
  all_goals (try omega)
  case n24 => exact ⟨⟨q + 1, by omega, by omega, by omega, by omega, by assumption⟩, by omega⟩
  all_goals (have hb : ¬ crE (sB a0) (sR a0) = 0 := sum_bad h1 h2 e1 e2 hn h3' hr ‹¬ crE (s + wI (a0.getD q [])) (t + rI (a0.getD q [])) = 0›)
  case g20 => rw [hR0, sumB, hE, if_neg hb]
  case g21 => rw [hR1, sumR, hE, if_neg hb]
  case g22 => rw [hR2, hE, crE_ne hb, crE_ne (by assumption)]

def wtE (b r c s : Int) : Int := if crE b r = 0 then (if crE c s = 0 then (if r + s > 1024 ∨ s = 1024 then 21 else 0) else 3) else 3
def wtW (b r c s : Int) : Int := if wtE b r c s = 0 then (if b + r < 1024 then 0 else Int.tdiv (b + c + r - 1024) (1024 - s)) else 0
def wtP (b r c s : Int) : Int := if wtE b r c s = 0 then (if b + r < 1024 then 0 else Int.tdiv (b + c + (r + s)) 1024) else 0

theorem allE_two {b r c s : Int} : allE [[.i b, .i r], [.i c, .i s]] = 0 ↔ crE b r = 0 ∧ crE c s = 0 := by
  rw [allE_0]
  constructor
  · intro h; exact ⟨h [.i b, .i r] (by simp), h [.i c, .i s] (by simp)⟩
  · rintro ⟨h1, h2⟩ x hx
    simp only [List.mem_cons, List.not_mem_nil, or_false] at hx
    rcases hx with rfl | rfl
    · exact h1
    · exact h2

theorem tdiv_bd {a b : Int} (ha : 0 ≤ a) (hb : 0 ≤ b) : 0 ≤ Int.tdiv a b ∧ Int.tdiv a b ≤ a := by
  rw [Int.tdiv_eq_ediv_of_nonneg ha]
  exact ⟨Int.ediv_nonneg ha hb, Int.ediv_le_self _ ha⟩

theorem law22 {pre : Nat → List (List D) → Prop} {fn : Nat → List (List D) → Nat → Nat → D} (hp48 : ∀ x, pre 48 x) (hf48 : ∀ l, fn 48 [[.l l]] 0 0 = .i (allE l))
    (hp53 : ∀ l : Rows, okC l → l.length ≤ 1000000 → pre 53 [[.l l]]) (hf53 : ∀ l, fn 53 [[.l l]] 0 0 = .i (sB l)) (hf53' : ∀ l, fn 53 [[.l l]] 0 1 = .i (sR l))
    {b r c s : Int} {R : Nat → Nat → D} (hR0 : R 0 0 = .i (wtW b r c s)) (hR1 : R 1 0 = .i (wtP b r c s)) (hR2 : R 2 0 = .i (wtE b r c s)) : V22 pre fn b r c s R := by
  have hi : ∀ n : Int, (D.i n).int = n := fun _ => rfl
  have e1 : sB [[.i b, .i r], [.i c, .i s]] = b + c := by simp [sB, wI, hi]
  have e2 : sR [[.i b, .i r], [.i c, .i s]] = r + s := by simp [sR, rI, hi]
  constructor
  case g4 => intro h; rw [hf48] at h; exact hp53 _ (allE_0.1 h) (by simp)
  all_goals (intros; (try simp only [hf48, hf53, hf53', hp48, hi, e1, e2] at *))
  case g1 =>
    rename_i h
    have h' : wtE b r c s = 3 := by
      rw [allE_two] at h; unfold wtE
      by_cases h1 : crE b r = 0
      · rw [if_pos h1, if_neg (fun h2 => h ⟨h1, h2⟩)]
      · rw [if_neg h1]
    rw [hR0, wtW, if_neg (by omega)]
  case g2 =>
    rename_i h
    have h' : wtE b r c s = 3 := by
      rw [allE_two] at h; unfold wtE
      by_cases h1 : crE b r = 0
      · rw [if_pos h1, if_neg (fun h2 => h ⟨h1, h2⟩)]
      · rw [if_neg h1]
    rw [hR1, wtP, if_neg (by omega)]
  case g3 =>
    rename_i h
    have h' : wtE b r c s = 3 := by
      rw [allE_two] at h; unfold wtE
      by_cases h1 : crE b r = 0
      · rw [if_pos h1, if_neg (fun h2 => h ⟨h1, h2⟩)]
      · rw [if_neg h1]
    rw [hR2, h', allE_ne h]
  all_goals (have hh := allE_two.1 ‹allE [[D.i b, D.i r], [D.i c, D.i s]] = 0›; have c1 := crE_0.1 hh.1; have c2 := crE_0.1 hh.2)
  all_goals (have hE : wtE b r c s = if r + s > 1024 ∨ s = 1024 then 21 else 0 := by rw [wtE, if_pos hh.1, if_pos hh.2])
  case g5 => rw [hR0, wtW, if_neg (by rw [hE, if_pos (by omega)]; decide)]
  case g6 => rw [hR1, wtP, if_neg (by rw [hE, if_pos (by omega)]; decide)]
  case g7 => rw [hR2, hE, if_pos (by omega)]
  case g8 => rw [hR0, wtW, if_neg (by rw [hE, if_pos (by omega)]; decide)]
  case g9 => rw [hR1, wtP, if_neg (by rw [hE, if_pos (by omega)]; decide)]
  case g10 => rw [hR2, hE, if_pos (by omega)]
  all_goals (try omega)
  all_goals (have hs : s < 1024 := by omega)
  all_goals (have hE0 : wtE b r c s = 0 := by rw [hE, if_neg (by omega)])
  case g12 => rw [hR0, wtW, if_pos hE0, if_pos (by omega)]
  case g13 => rw [hR1, wtP, if_pos hE0, if_pos (by omega)]
  case g14 => rw [hR2, hE0]
  case g23 => rw [hR0, wtW, if_pos hE0, if_neg (by omega)]
  case g24 => rw [hR1, wtP, if_pos hE0, if_neg (by omega)]
  case g25 => rw [hR2, hE0]
  all_goals (have t1 := tdiv_bd (a := b + c + r - 1024) (b := 1024 - s) (by omega) (by omega); have t2 := tdiv_bd (a := b + c + (r + s)) (b := 1024) (by omega) (by omega))
  all_goals (try omega)
theorem law23 {pre : Nat → List (List D) → Prop} {fn : Nat → List (List D) → Nat → Nat → D} (hp14 : ∀ x, pre 14 x) (hf14 : ∀ a b, fn 14 [[.i a, .i b]] 0 0 = .i (crE a b))
    {b r c s : Int} {R : Nat → Nat → D} (hR0 : R 0 0 = .i (wtW b r c s)) (hR1 : R 1 0 = .i (wtP b r c s)) (hR2 : R 2 0 = .i (wtE b r c s)) : V23 pre fn b r c s R := by
  have hi : ∀ n : Int, (D.i n).int = n := fun _ => rfl
  constructor
  all_goals (intros; (try simp only [hf14, hp14, hi] at *))
  all_goals (try contradiction)
  case g2 => rw [hR0, wtW, if_neg (by rw [wtE, if_pos (by assumption), if_neg (by assumption)]; decide)]
  case g3 => rw [hR1, wtP, if_neg (by rw [wtE, if_pos (by assumption), if_neg (by assumption)]; decide)]
  case g4 => rw [hR2, wtE, if_pos (by assumption), if_neg (by assumption), crE_ne (by assumption)]
  case g28 => rw [hR0, wtW, if_neg (by rw [wtE, if_neg (by assumption)]; decide)]
  case g29 => rw [hR1, wtP, if_neg (by rw [wtE, if_neg (by assumption)]; decide)]
  case g30 => rw [hR2, wtE, if_neg (by assumption), crE_ne (by assumption)]
  all_goals (have q1 := ‹crE b r = 0›; have q2 := ‹crE c s = 0›; have c1 := crE_0.1 q1; have c2 := crE_0.1 q2)
  all_goals (have hE : wtE b r c s = if r + s > 1024 ∨ s = 1024 then 21 else 0 := by rw [wtE, if_pos q1, if_pos q2])
  case g6 => rw [hR0, wtW, if_neg (by rw [hE, if_pos (by omega)]; decide)]
  case g7 => rw [hR1, wtP, if_neg (by rw [hE, if_pos (by omega)]; decide)]
  case g8 => rw [hR2, hE, if_pos (by omega)]
  case g9 => rw [hR0, wtW, if_neg (by rw [hE, if_pos (by omega)]; decide)]
  case g10 => rw [hR1, wtP, if_neg (by rw [hE, if_pos (by omega)]; decide)]
  case g11 => rw [hR2, hE, if_pos (by omega)]
  all_goals (try omega)
  all_goals (have hE0 : wtE b r c s = 0 := by rw [hE, if_neg (by omega)])
  case g13 => rw [hR0, wtW, if_pos hE0, if_pos (by omega)]
  case g14 => rw [hR1, wtP, if_pos hE0, if_pos (by omega)]
  case g15 => rw [hR2, hE0]
  case g25 => rw [hR0, wtW, if_pos hE0, if_neg (by omega)]
  case g26 => rw [hR1, wtP, if_pos hE0, if_neg (by omega)]; congr 2; omega
  case g27 => rw [hR2, hE0]
  all_goals (have t1 := tdiv_bd (a := b + c + r - 1024) (b := 1024 - s) (by omega) (by omega); have t2 := tdiv_bd (a := b + c + r + s) (b := 1024) (by omega) (by omega))
  all_goals (try omega)

def afE (b r w : Int) : Int := if crE b r = 0 then (if 0 ≤ w ∧ w ≤ 1048576 then crE (b + r * w) r else 3) else 3
def afB (b r w : Int) : Int := if afE b r w = 0 then b + r * w else 0
def afR (b r w : Int) : Int := if afE b r w = 0 then r else 0

theorem mul_bd {r w : Int} (h1 : 0 ≤ r) (h2 : r ≤ 1024) (h3 : 0 ≤ w) (h4 : w ≤ 1048576) : 0 ≤ r * w ∧ r * w ≤ 1073741824 := by
  refine ⟨Int.mul_nonneg h1 h3, ?_⟩
  have a := Int.mul_le_mul_of_nonneg_right h2 h3
  omega

theorem law24 {pre : Nat → List (List D) → Prop} {fn : Nat → List (List D) → Nat → Nat → D} (hp13 : ∀ x, pre 13 x) (hf13 : ∀ a b, fn 13 [[.i a, .i b]] 0 0 = .i (crE a b))
    {b r w : Int} {R : Nat → Nat → D} (hR0 : R 0 0 = .i (afB b r w)) (hR1 : R 0 1 = .i (afR b r w)) (hR2 : R 1 0 = .i (afE b r w)) : V24 pre fn b r w R := by
  have hi : ∀ n : Int, (D.i n).int = n := fun _ => rfl
  have hm : ∀ x : Int, mnI (mxI x 0) 1048576 = min (max x 0) 1048576 := fun x => by rw [mxI_eq, mnI_eq]
  constructor
  all_goals (intros; (try simp only [hf13, hp13, hi, hm] at *))
  case g1 => rw [hR0, afB, if_neg (by rw [afE, if_neg (by assumption)]; decide)]
  case g2 => rw [hR1, afR, if_neg (by rw [afE, if_neg (by assumption)]; decide)]
  case g3 => rw [hR2, afE, if_neg (by assumption), crE_ne (by assumption)]
  all_goals (have q1 := ‹crE b r = 0›; have c1 := crE_0.1 q1)
  all_goals (have hb := mul_bd (r := r) (w := min (max w 0) 1048576) (by omega) (by omega) (by omega) (by omega))
  all_goals (try omega)
  all_goals (by_cases hw : 0 ≤ w ∧ w ≤ 1048576)
  all_goals (try omega)
  all_goals (try (have hmn : min (max w 0) 1048576 = w := by omega))
  all_goals (try simp only [hmn] at *)
  all_goals (first | (have hE : afE b r w = crE (b + r * w) r := by rw [afE, if_pos q1, if_pos hw]) | (have hE : afE b r w = 3 := by rw [afE, if_pos q1, if_neg hw]))
  all_goals first
    | (rw [hR0, afB, hE, if_neg (by first | assumption | decide)])
    | (rw [hR1, afR, hE, if_neg (by first | assumption | decide)])
    | (rw [hR0, afB, hE, if_pos (by assumption)])
    | (rw [hR1, afR, hE, if_pos (by assumption)])
    | (rw [hR2, hE, crE_ne (by assumption)])
    | (rw [hR2, hE]; congr 1)
    | (rw [hR2, hE])

theorem law25 {pre : Nat → List (List D) → Prop} {fn : Nat → List (List D) → Nat → Nat → D} (hp14 : ∀ x, pre 14 x) (hf14 : ∀ a b, fn 14 [[.i a, .i b]] 0 0 = .i (crE a b))
    {b r w : Int} {R : Nat → Nat → D} (hR0 : R 0 0 = .i (afB b r w)) (hR1 : R 0 1 = .i (afR b r w)) (hR2 : R 1 0 = .i (afE b r w)) : V25 pre fn b r w R := by
  have hi : ∀ n : Int, (D.i n).int = n := fun _ => rfl
  constructor
  all_goals (intros; (try simp only [hf14, hp14, hi] at *))
  case g1 => rw [hR0, afB, if_neg (by rw [afE, if_neg (by assumption)]; decide)]
  case g2 => rw [hR1, afR, if_neg (by rw [afE, if_neg (by assumption)]; decide)]
  case g3 => rw [hR2, afE, if_neg (by assumption), crE_ne (by assumption)]
  all_goals (have q1 := ‹crE b r = 0›; have c1 := crE_0.1 q1)
  case g4 => rw [hR0, afB, if_neg (by rw [afE, if_pos q1, if_neg (by omega)]; decide)]
  case g5 => rw [hR1, afR, if_neg (by rw [afE, if_pos q1, if_neg (by omega)]; decide)]
  case g6 => rw [hR2, afE, if_pos q1, if_neg (by omega)]
  case g7 => rw [hR0, afB, if_neg (by rw [afE, if_pos q1, if_neg (by omega)]; decide)]
  case g8 => rw [hR1, afR, if_neg (by rw [afE, if_pos q1, if_neg (by omega)]; decide)]
  case g9 => rw [hR2, afE, if_pos q1, if_neg (by omega)]
  all_goals (have hb := mul_bd (r := r) (w := w) (by omega) (by omega) (by omega) (by omega))
  all_goals (try omega)
  all_goals (have hE : afE b r w = crE (b + r * w) r := by rw [afE, if_pos q1, if_pos (by omega)])
  case g13 => rw [hR0, afB, hE, if_neg (by assumption)]
  case g14 => rw [hR1, afR, hE, if_neg (by assumption)]
  case g15 => rw [hR2, hE]
  case g16 => rw [hR0, afB, hE, if_pos (by assumption)]
  case g17 => rw [hR1, afR, hE, if_pos (by assumption)]
  case g18 => rw [hR2, hE]; congr 1
end HX

namespace HX
open Go Go.Proofs CX

theorem row2 {r : List D} (h : ShL [.int .i64, .int .i64] r) : r = [.i (wI r), .i (rI r)] := by
  match r, h with
  | [a, b], h =>
    simp only [ShL, ShK] at h
    obtain ⟨⟨n, rfl⟩, ⟨m, rfl⟩, _⟩ := h
    rfl
  | [], h => simp [ShL] at h
  | [_], h => simp [ShL] at h
  | _ :: _ :: _ :: _, h => simp [ShL] at h

theorem take_row {l : Rows} (h : ShR [.int .i64, .int .i64] l) {q : Nat} (hq : q < l.length) : l.take q ++ [[.i (wI (l.getD q [])), .i (rI (l.getD q []))]] = l.take (q + 1) := by
  rw [← row2 (h.1 _ (row_mem hq)), List.take_succ, List.getD_eq_getElem?_getD, List.getElem?_eq_getElem hq]
  rfl

theorem law4 {pre : Nat → List (List D) → Prop} {fn : Nat → List (List D) → Nat → Nat → D} (hp9 : pre 9 []) (hf9 : fn 9 [] 0 0 = .b true) (hp11 : ∀ x, pre 11 x) (hf11 : ∀ a b, fn 11 [[.i a, .i b]] 0 0 = .i a) (hf11' : ∀ a b, fn 11 [[.i a, .i b]] 0 1 = .i b)
    (hp20 : ∀ l : Rows, l.length ≤ 1000000 → pre 20 [[.l l]]) (hp21 : ∀ l : Rows, l.length ≤ 1000000 → pre 21 [[.l l]]) (hf20 : ∀ x, fn 20 x = fn 21 x)
    (hp22 : ∀ x, pre 22 x) (hp23 : ∀ x, pre 23 x) (hf22 : ∀ x, fn 22 x = fn 23 x)
    (hp24 : ∀ x, pre 24 x) (hp25 : ∀ x, pre 25 x) (hf24 : ∀ x, fn 24 x = fn 25 x) (hz : ∀ a b w, (fn 25 [[.i a, .i b], [.i w]] 1 0).int ≠ 0 → (fn 25 [[.i a, .i b], [.i w]] 0 0).int = 0 ∧ (fn 25 [[.i a, .i b], [.i w]] 0 1).int = 0)
    {a0 : Rows} (ha0 : ShR [.int .i64, .int .i64] a0) {b r c s w : Int} {R : Nat → Nat → D} (hR : R 0 0 = .b true) :
    V4 pre fn a0 b r c s w R (fun o i => ∃ q : Nat, i = q ∧ q ≤ a0.length ∧ o = a0.take q) (fun _ i => (a0.length - i).toNat) := by
  have hi : ∀ n : Int, (D.i n).int = n := fun _ => rfl
  have hb : ∀ b : Bool, (D.b b).boo = b := fun _ => rfl
  constructor
  case g0 => intro _; exact hp9
  case g1 => intro _; rw [hf9, hb]; exact hR
  case i0 => intro _; exact ⟨0, rfl, by omega, by simp⟩
  all_goals (intro o i hI; obtain ⟨q, hx, hq, rfl⟩ := hI; subst hx)
  all_goals (intros; (try simp only [hf11, hf11', hi, Int.toNat_natCast, gt_wI, gt_rI] at *))
  all_goals (try omega)
  case g7 => simp only [List.length_take, List.length_cons, List.length_nil]; omega
  case n9 => exact ⟨⟨q + 1, by omega, by omega, take_row ha0 (by omega)⟩, by omega⟩
  all_goals (first | exact hp11 _ | exact hp22 _ | exact hp23 _ | exact hp24 _ | exact hp25 _ | skip)
  case g10 => exact hp20 _ (by rw [List.length_take]; omega)
  case g11 => exact hp21 _ (by omega)
  all_goals (have ht : a0.take q = a0 := List.take_of_length_le (by omega))
  all_goals (try simp only [ht, hf20, hf22, hf24, hf9, hb, true_or, or_true, not_true_eq_false, or_self, and_self] at *)
  all_goals first
    | exact hR
    | contradiction
    | skip
  all_goals (have h1 := ‹¬ (fn 25 [[D.i b, D.i r], [D.i w]] 1 0).int = 0›; have h2 := hz b r w h1; omega)
end HX

namespace HX
open Go Go.Proofs CX
set_option maxHeartbeats 4000000 in
set_option maxRecDepth 100000 in
theorem walk11 {ro A pre fn} (hE : EnvOk ⟨A, (cxE ro), ksF, sigL [], pre, fn⟩) {P : List (List D) → Prop} {res : List (List D) → Nat → Nat → D}
    (hv : ∀ (a0_0 : Int) (a0_1 : Int), P [[.i a0_0, .i a0_1]] → V11 a0_0 a0_1 (res [[.i a0_0, .i a0_1]]) ) :
    PureC (cxE ro) 11 ⟨[(true, [.int .i64, .int .i64])], [(true, [.int .i64, .int .i64])], false⟩ P res := by
  have hA := hE.A
  simp only [] at hA
  have hinl : ∀ f fn, inlL [] f = some fn → (cxE ro).fn f = some fn ∧ (cxE ro).ext f = none := Inls.ok (by repeat (first | exact .nil | refine .cons rfl rfl ?_))
  refine PureC.of_vc hE hinl 6 (f := 11) (fn := Tryz.f11) ⟨rfl, rfl⟩ ?_
  intro a0_0 a0_1 hP
  obtain ⟨R, hR⟩ : ∃ R, res [[.i a0_0, .i a0_1]] = R := ⟨_, rfl⟩
  rw [hR]
  have hV := hv a0_0 a0_1  hP
  rw [hR] at hV
  clear hR hP hv
  cbv
  repeat' (first | (refine Br.mk (fun _ => ?_) (fun _ => ?_) <;> cbv) | (refine NilB.mk (fun _ => ?_) ?_ <;> cbv) | refine And.intro ?_ ?_ | exact True.intro)
  · subst hA; exact hV.g0
  · subst hA; exact hV.g1
end HX
