/-
  Texts of the executors: CxWorks1, CxWorks, HxTab, HxC, HxLib, V3, W3, HxEnv, CxClose, HxBase, HxClose, HxOwn, HxCtr, CbB, CtT, CtS, V11, V13, V14, V48, V87, V49, V51, V52, V15, V16, V10, V12, V19, CtL, V17, V18, CtM, W11.
-/
import Derived.Test.YtlijpmeeldoofaaGreatCalcTimes8
import Derived.WalkKit
import Derived.ProofKit
import Derived.JoinedCond
import Derived.RowKit3
import Derived.ChangeArms
import Derived.ChangeCalls
import Derived.WideKeyArgs
set_option linter.all false
namespace CX
open Go Go.Proofs

noncomputable def args1 : List V := [gR p0R 0]
theorem ent1 : leS p0 ⟨Tryz.f58.ntmps, 0, entered args1 0 .e, p0H, p0.nx, []⟩ = true := by kernel_rfl
theorem res1 : resultsX env pz.regs pz.h Tryz.f58.results.toList (fun l => retV (one l) pz.h pz.nx) = retV (gR pvR 0) pz.h pz.nx := by kernel_rfl
theorem fits1 : Nat.ble (len args1) Tryz.f58.ntmps = true := by kernel_rfl
noncomputable def env1 : Env := env.and 58 (.known p0H p0.nx args1 (gR pvR 0) pzH pz.nx)
theorem env1_ok : EnvOk env1 Tryz.prog :=
  EnvOk.and env_ok (known_call env_ok (fun _ => rfl) fP_fn rfl fP_body fits1 (Known.from (leS_ok ent1) run1) (.inr rfl) rfl res1)

noncomputable def args2 : List V := [gR q0R 0]
theorem ent2 : leS q0 ⟨Tryz.f58.ntmps, 0, entered args2 0 .e, q0H, q0.nx, []⟩ = true := by kernel_rfl
theorem res2 : resultsX env qz.regs qz.h Tryz.f58.results.toList (fun l => retV (one l) qz.h qz.nx) = retV (gR qvR 0) qz.h qz.nx := by kernel_rfl
theorem fits2 : Nat.ble (len args2) Tryz.f58.ntmps = true := by kernel_rfl
noncomputable def env2 : Env := env.and 58 (.known q0H q0.nx args2 (gR qvR 0) qzH qz.nx)
theorem env2_ok : EnvOk env2 Tryz.prog :=
  EnvOk.and env_ok (known_call env_ok (fun _ => rfl) fP_fn rfl fP_body fits2 (Known.from (leS_ok ent2) run2) (.inr rfl) rfl res2)

noncomputable def args3 : List V := [gR r0R 0]
theorem ent3 : leS r0 ⟨Tryz.f58.ntmps, 0, entered args3 0 .e, r0H, r0.nx, []⟩ = true := by kernel_rfl
theorem res3 : resultsX env rz.regs rz.h Tryz.f58.results.toList (fun l => retV (one l) rz.h rz.nx) = retV (gR rvR 0) rz.h rz.nx := by kernel_rfl
theorem fits3 : Nat.ble (len args3) Tryz.f58.ntmps = true := by kernel_rfl
noncomputable def env3 : Env := env.and 58 (.known r0H r0.nx args3 (gR rvR 0) rzH rz.nx)
theorem env3_ok : EnvOk env3 Tryz.prog :=
  EnvOk.and env_ok (known_call env_ok (fun _ => rfl) fP_fn rfl fP_body fits3 (Known.from (leS_ok ent3) run3) (.inr rfl) rfl res3)
end CX

namespace CX
open Go Go.Proofs

theorem w1 : isS s16 (runL env 1000 none (pcW.take 16) ⟨196, 0, .e, .e, 0, []⟩) = true := by kernel_rfl
theorem w2 : isS s20 (runL env1 1000 none ((pcW.drop 16).take 4) s16) = true := by kernel_rfl
theorem w3 : isS s22 (runL env2 1000 none ((pcW.drop 20).take 2) s20) = true := by kernel_rfl
theorem w4 : isE .ret wZ (runE env3 1000 none (pcW.drop 22) s22) = true := by kernel_rfl
theorem w_res : resultsX env wZ.regs wZ.h Tryz.f9.results.toList (fun l => retV (one l) wZ.h wZ.nx) = retV (.bool true) wZ.h wZ.nx := by kernel_rfl

theorem cut (n m : Nat) : pcW.drop n = (pcW.drop n).take m ++ pcW.drop (n + m) := by
  rw [← List.drop_drop, List.take_append_drop]

theorem works_known : Known env Tryz.prog none (fb Tryz.f9) ⟨196, 0, .e, .e, 0, []⟩ .ret wZ := by
  refine KnownL.code ?_
  rw [show flatC (fb Tryz.f9) = pcW.take 16 ++ pcW.drop 16 from (List.take_append_drop 16 pcW).symm]
  refine KnownL.chunk env_ok w1 ?_
  refine KnownL.env (E := env1) (E' := env) rfl ?_
  rw [cut 16 4]
  refine KnownL.chunk env1_ok w2 ?_
  refine KnownL.env (E := env2) (E' := env1) rfl ?_
  rw [cut 20 2]
  refine KnownL.chunk env2_ok w3 ?_
  refine KnownL.env (E := env3) (E' := env2) rfl ?_
  exact KnownL.endC env3_ok w4

theorem works_ok (w : World) : Calls Tryz.prog 9 #[] w fun e w' => e = .returned (.bool true) ∧ Kept w w' :=
  known_closed env_ok (fun _ => rfl) fW_fn rfl fW_body works_known (.inr rfl) rfl w_res w
end CX

namespace HX
open Go Go.Proofs

noncomputable def tyB : BT CX.Ty := (.n (.n (.n (.n (.n (.n (.n (.n (.n .e 1 CX.ty1 .e) 2 CX.ty2 .e) 3 CX.ty3 (.n .e 4 CX.ty4 .e)) 5 CX.ty5 (.n (.n .e 6 CX.ty6 .e) 7 CX.ty7 (.n .e 8 CX.ty8 .e))) 9 CX.ty9 (.n (.n (.n (.n .e 10 CX.ty10 .e) 11 CX.ty11 .e) 12 CX.ty12 (.n .e 13 CX.ty13 .e)) 14 CX.ty14 (.n (.n .e 15 CX.ty15 .e) 16 CX.ty16 (.n .e 17 CX.ty17 .e)))) 18 CX.ty18 (.n (.n (.n (.n (.n .e 19 CX.ty19 .e) 20 CX.ty20 .e) 21 CX.ty21 (.n .e 22 CX.ty22 .e)) 23 CX.ty23 (.n (.n .e 24 CX.ty24 .e) 25 CX.ty25 (.n .e 26 CX.ty26 .e))) 28 CX.ty28 (.n (.n (.n .e 29 CX.ty29 .e) 30 CX.ty30 (.n .e 31 CX.ty31 .e)) 32 CX.ty32 (.n (.n .e 33 CX.ty33 .e) 35 CX.ty35 (.n .e 37 CX.ty37 .e))))) 38 CX.ty38 (.n (.n (.n (.n (.n (.n .e 39 CX.ty39 .e) 40 CX.ty40 .e) 41 CX.ty41 (.n .e 42 CX.ty42 .e)) 44 CX.ty44 (.n (.n .e 46 CX.ty46 .e) 48 CX.ty48 (.n .e 49 CX.ty49 .e))) 50 CX.ty50 (.n (.n (.n .e 51 CX.ty51 .e) 52 CX.ty52 (.n .e 53 CX.ty53 .e)) 54 CX.ty54 (.n (.n .e 55 CX.ty55 .e) 56 CX.ty56 (.n .e 57 CX.ty57 .e)))) 58 CX.ty58 (.n (.n (.n (.n (.n .e 59 CX.ty59 .e) 60 CX.ty60 .e) 62 CX.ty62 (.n .e 63 CX.ty63 .e)) 64 CX.ty64 (.n (.n .e 65 CX.ty65 .e) 66 CX.ty66 (.n .e 67 CX.ty67 .e))) 68 CX.ty68 (.n (.n (.n .e 69 CX.ty69 .e) 71 CX.ty71 (.n .e 72 CX.ty72 .e)) 73 CX.ty73 (.n (.n .e 74 CX.ty74 .e) 75 CX.ty75 (.n .e 76 CX.ty76 .e)))))) 77 CX.ty77 (.n (.n (.n (.n (.n (.n (.n .e 78 CX.ty78 .e) 79 CX.ty79 .e) 80 CX.ty80 (.n .e 81 CX.ty81 .e)) 83 CX.ty83 (.n (.n .e 85 CX.ty85 .e) 86 CX.ty86 (.n .e 88 CX.ty88 .e))) 89 CX.ty89 (.n (.n (.n (.n .e 90 CX.ty90 .e) 91 CX.ty91 .e) 92 CX.ty92 (.n .e 93 CX.ty93 .e)) 94 CX.ty94 (.n (.n .e 95 CX.ty95 .e) 96 CX.ty96 (.n .e 97 CX.ty97 .e)))) 98 CX.ty98 (.n (.n (.n (.n (.n .e 99 CX.ty99 .e) 100 CX.ty100 .e) 101 CX.ty101 (.n .e 103 CX.ty103 .e)) 104 CX.ty104 (.n (.n .e 105 CX.ty105 .e) 106 CX.ty106 (.n .e 107 CX.ty107 .e))) 108 CX.ty108 (.n (.n (.n .e 109 CX.ty109 .e) 110 CX.ty110 (.n .e 111 CX.ty111 .e)) 112 CX.ty112 (.n (.n .e 113 CX.ty113 .e) 114 CX.ty114 (.n .e 115 CX.ty115 .e))))) 116 CX.ty116 (.n (.n (.n (.n (.n (.n .e 117 CX.ty117 .e) 118 CX.ty118 .e) 119 CX.ty119 (.n .e 120 CX.ty120 .e)) 121 CX.ty121 (.n (.n .e 122 CX.ty122 .e) 123 CX.ty123 (.n .e 124 CX.ty124 .e))) 125 CX.ty125 (.n (.n (.n .e 126 CX.ty126 .e) 127 CX.ty127 (.n .e 128 CX.ty128 .e)) 129 CX.ty129 (.n (.n .e 131 CX.ty131 .e) 132 CX.ty132 (.n .e 133 CX.ty133 .e)))) 134 CX.ty134 (.n (.n (.n (.n (.n .e 135 CX.ty135 .e) 136 CX.ty136 .e) 137 CX.ty137 (.n .e 138 CX.ty138 .e)) 139 CX.ty139 (.n (.n .e 140 CX.ty140 .e) 141 CX.ty141 (.n .e 142 CX.ty142 .e))) 144 CX.ty144 (.n (.n (.n .e 145 CX.ty145 .e) 147 CX.ty147 (.n .e 148 CX.ty148 .e)) 149 CX.ty149 (.n (.n .e 150 CX.ty150 .e) 151 CX.ty151 (.n .e 152 CX.ty152 .e))))))) 153 CX.ty153 (.n (.n (.n (.n (.n (.n (.n (.n .e 154 CX.ty154 .e) 155 CX.ty155 .e) 156 CX.ty156 (.n .e 157 CX.ty157 .e)) 158 CX.ty158 (.n (.n .e 159 CX.ty159 .e) 160 CX.ty160 (.n .e 161 CX.ty161 .e))) 162 CX.ty162 (.n (.n (.n (.n .e 163 CX.ty163 .e) 164 CX.ty164 .e) 165 CX.ty165 (.n .e 166 CX.ty166 .e)) 167 CX.ty167 (.n (.n .e 168 CX.ty168 .e) 169 CX.ty169 (.n .e 170 CX.ty170 .e)))) 171 CX.ty171 (.n (.n (.n (.n (.n .e 172 CX.ty172 .e) 173 CX.ty173 .e) 174 CX.ty174 (.n .e 175 CX.ty175 .e)) 176 CX.ty176 (.n (.n .e 177 CX.ty177 .e) 178 CX.ty178 (.n .e 179 CX.ty179 .e))) 180 CX.ty180 (.n (.n (.n .e 181 CX.ty181 .e) 182 CX.ty182 (.n .e 183 CX.ty183 .e)) 184 CX.ty184 (.n (.n .e 185 CX.ty185 .e) 186 CX.ty186 (.n .e 187 CX.ty187 .e))))) 188 CX.ty188 (.n (.n (.n (.n (.n (.n .e 189 CX.ty189 .e) 190 CX.ty190 .e) 191 CX.ty191 (.n .e 192 CX.ty192 .e)) 193 CX.ty193 (.n (.n .e 194 CX.ty194 .e) 195 CX.ty195 (.n .e 196 CX.ty196 .e))) 197 CX.ty197 (.n (.n (.n .e 198 CX.ty198 .e) 199 CX.ty199 (.n .e 200 CX.ty200 .e)) 201 CX.ty201 (.n (.n .e 202 CX.ty202 .e) 204 CX.ty204 (.n .e 205 CX.ty205 .e)))) 206 CX.ty206 (.n (.n (.n (.n (.n .e 207 CX.ty207 .e) 209 CX.ty209 .e) 210 CX.ty210 (.n .e 212 CX.ty212 .e)) 214 CX.ty214 (.n (.n .e 215 CX.ty215 .e) 216 CX.ty216 (.n .e 217 CX.ty217 .e))) 218 CX.ty218 (.n (.n (.n .e 219 CX.ty219 .e) 220 CX.ty220 (.n .e 221 CX.ty221 .e)) 222 CX.ty222 (.n (.n .e 223 CX.ty223 .e) 224 CX.ty224 (.n .e 225 CX.ty225 .e)))))) 227 CX.ty227 (.n (.n (.n (.n (.n (.n (.n .e 228 CX.ty228 .e) 229 CX.ty229 .e) 230 CX.ty230 (.n .e 231 CX.ty231 .e)) 232 CX.ty232 (.n (.n .e 233 CX.ty233 .e) 234 CX.ty234 (.n .e 235 CX.ty235 .e))) 236 CX.ty236 (.n (.n (.n .e 237 CX.ty237 .e) 238 CX.ty238 (.n .e 239 CX.ty239 .e)) 240 CX.ty240 (.n (.n .e 241 CX.ty241 .e) 242 CX.ty242 (.n .e 243 CX.ty243 .e)))) 244 CX.ty244 (.n (.n (.n (.n (.n .e 245 CX.ty245 .e) 246 CX.ty246 .e) 247 CX.ty247 (.n .e 248 CX.ty248 .e)) 249 CX.ty249 (.n (.n .e 250 CX.ty250 .e) 251 CX.ty251 (.n .e 252 CX.ty252 .e))) 253 CX.ty253 (.n (.n (.n .e 254 CX.ty254 .e) 256 CX.ty256 (.n .e 257 CX.ty257 .e)) 258 CX.ty258 (.n (.n .e 259 CX.ty259 .e) 260 CX.ty260 (.n .e 261 CX.ty261 .e))))) 262 CX.ty262 (.n (.n (.n (.n (.n (.n .e 263 CX.ty263 .e) 264 CX.ty264 .e) 265 CX.ty265 (.n .e 266 CX.ty266 .e)) 267 CX.ty267 (.n (.n .e 268 CX.ty268 .e) 269 CX.ty269 (.n .e 270 CX.ty270 .e))) 273 CX.ty273 (.n (.n (.n .e 274 CX.ty274 .e) 275 CX.ty275 (.n .e 276 CX.ty276 .e)) 277 CX.ty277 (.n (.n .e 278 CX.ty278 .e) 279 CX.ty279 (.n .e 280 CX.ty280 .e)))) 282 CX.ty282 (.n (.n (.n (.n (.n .e 283 CX.ty283 .e) 284 CX.ty284 .e) 285 CX.ty285 (.n .e 286 CX.ty286 .e)) 287 CX.ty287 (.n (.n .e 288 CX.ty288 .e) 289 CX.ty289 (.n .e 290 CX.ty290 .e))) 291 CX.ty291 (.n (.n (.n .e 292 CX.ty292 .e) 293 CX.ty293 (.n .e 294 CX.ty294 .e)) 295 CX.ty295 (.n (.n .e 296 CX.ty296 .e) 297 CX.ty297 (.n .e 298 CX.ty298 .e))))))))
def ksB : BT (List Kd) := (.n (.n (.n (.n (.n (.n (.n .e 2 [.int .i64] .e) 3 [.int .i64] (.n .e 4 [.bool] .e)) 5 [.int .u8] (.n (.n .e 6 [.int .u8] .e) 7 [.int .i64, .int .i64, .bool, .int .u8] .e)) 8 [.int .i64, .int .i64, .bool, .int .u8] (.n (.n (.n .e 9 [.str] .e) 10 [.str] .e) 11 [.str] (.n (.n .e 12 [.int .u64] .e) 13 [.str, .int .u64] .e))) 14 [.str, .int .u64] (.n (.n (.n (.n .e 21 [.int .i32] .e) 22 [.sl [.int .i64]] .e) 23 [.int .i64, .int .i64] (.n (.n .e 24 [.int .i64, .int .i64] .e) 26 [.int .i64] .e)) 29 [.int .i64, .int .i64] (.n (.n (.n .e 41 [.sl [.int .i64, .int .i64]] .e) 42 [.sl [.int .i64, .int .i64]] .e) 53 [.int .i64, .int .i64, .int .i64] (.n (.n .e 54 [.int .i64, .int .i64, .int .i64] .e) 55 [.sl [.int .i64, .int .i64, .sl [.int .i64], .int .i64, .int .i64, .int .i64]] .e)))) 57 [.sl [.int .i64, .int .i64, .int .i64, .int .i64, .int .i64]] (.n (.n (.n (.n (.n .e 58 [.sl [.sl [.int .i64]]] .e) 59 [.sl [.int .i64, .int .i64, .int .i64, .int .i64, .int .i64], .sl [.sl [.int .i64]]] .e) 60 [.sl [.int .i64, .int .i64, .int .i64, .int .i64, .int .i64], .sl [.sl [.int .i64]]] (.n (.n .e 63 [.int .i64, .int .i64, .int .i64] .e) 65 [.sl [.int .i64, .int .i64, .sl [.int .i64], .int .i64, .int .i64, .int .i64]] .e)) 67 [.sl [.int .i64, .int .i64, .int .i64, .int .i64, .int .i64]] (.n (.n (.n .e 68 [.sl [.int .i64, .int .i64, .int .i64, .int .i64, .int .i64], .sl [.sl [.int .i64]]] .e) 69 [.sl [.int .i64, .int .i64, .int .i64, .int .i64, .int .i64], .sl [.sl [.int .i64]]] .e) 79 [.sl [.int .u8, .sl [.int .u8], .bool, .int .u16, .int .u16, .sl [.int .u8]]] (.n (.n .e 81 [.sl [.int .i64, .int .i64, .int .i64, .int .i64]] .e) 86 [.sl [.sl [.int .i64, .int .i64, .int .i64]]] .e))) 89 [.sl [.int .i64, .int .i64, .sl [.int .i64]]] (.n (.n (.n (.n .e 91 [.int .i64, .int .i64, .int .i64, .int .i64] .e) 92 [.int .i64, .int .i64, .int .i64, .int .i64] .e) 93 [.int .i64, .int .i64, .sl [.int .i64]] (.n (.n .e 94 [.int .i64, .int .i64, .sl [.int .i64]] .e) 95 [.int .i64, .int .i64, .sl [.int .i64], .int .i64, .int .i64, .int .i64] .e)) 96 [.int .i64, .int .i64, .sl [.int .i64], .int .i64, .int .i64, .int .i64] (.n (.n (.n .e 97 [.sl [.int .i64, .int .i64, .int .i64]] .e) 98 [.sl [.int .i64, .int .i64, .int .i64, .int .i64]] .e) 99 [.sl [.int .i64, .int .i64]] (.n (.n .e 100 [.sl [.int .i64, .int .i64, .int .i64], .sl [.int .i64, .int .i64, .int .i64, .int .i64], .sl [.int .i64, .int .i64], .int .i64] .e) 101 [.sl [.int .i64, .int .i64, .int .i64], .sl [.int .i64, .int .i64, .int .i64, .int .i64], .sl [.int .i64, .int .i64], .int .i64] .e))))) 105 [.int .i64, .int .i64, .int .i64] (.n (.n (.n (.n (.n (.n .e 106 [.int .i64, .int .i64, .int .i64] .e) 107 [.int .i64, .int .i64] (.n .e 110 [.sl [.int .u8]] .e)) 111 [.int .u16] (.n (.n .e 114 [.sl [.int .i64], .sl [.int .i64]] .e) 117 [.int .i64, .int .i64, .int .i64, .int .i64, .int .i64] .e)) 118 [.int .i64, .int .i64, .int .i64, .int .i64, .int .i64] (.n (.n (.n .e 126 [.int .i64, .int .i64, .sl [.int .i64]] .e) 127 [.int .i64, .int .i64, .sl [.int .i64], .int .i64, .int .i64, .int .i64] .e) 128 [.int .i64, .int .i64, .sl [.int .i64], .int .i64, .int .i64, .int .i64] (.n (.n .e 133 [.sl [.int .i64, .int .i64, .int .i64]] .e) 135 [.int .i64, .int .i64, .int .i64] .e))) 136 [.int .i64, .int .i64, .int .i64] (.n (.n (.n (.n .e 137 [.int .i64, .int .i64] .e) 138 [.int .i64, .int .i64] .e) 141 [.int .i64, .int .i64, .int .i64, .sl [.int .i64, .int .i64, .sl [.int .i64], .int .i64, .int .i64, .int .i64], .sl [.sl [.int .i64]]] (.n (.n .e 142 [.int .i64, .int .i64, .int .i64, .sl [.int .i64, .int .i64, .sl [.int .i64], .int .i64, .int .i64, .int .i64], .sl [.sl [.int .i64]]] .e) 148 [.int .i64, .int .i64, .int .i64, .int .i64, .int .i64] .e)) 157 [.sl [.sl [.sl [.int .i64, .int .i64, .int .i64]]]] (.n (.n (.n .e 164 [.int .u8, .sl [.int .u8], .bool, .int .u16, .int .u16, .sl [.int .u8]] .e) 165 [.int .u8, .sl [.int .u8], .bool, .int .u16, .int .u16, .sl [.int .u8]] .e) 169 [.sl [.int .i64, .int .i64, .int .i64]] (.n (.n .e 170 [.int .i64, .int .i64, .int .i64] .e) 171 [.int .i64, .int .i64, .int .i64] .e)))) 188 [.int .i64, .int .i64, .int .i64] (.n (.n (.n (.n (.n .e 189 [.int .i64, .int .i64, .int .i64] .e) 191 [.sl [.int .i64]] .e) 192 [.sl [.int .i64]] (.n (.n .e 196 [.sl [.sl [.int .i64, .int .i64, .int .i64]]] .e) 206 [.sl [.int .i64, .int .i64, .sl [.int .i64]]] .e)) 207 [.sl [.sl [.int .i64, .int .i64, .int .i64]]] (.n (.n (.n .e 222 [.int .u64] .e) 228 [.int .i64, .int .i64, .int .i64, .int .i64] .e) 229 [.int .i64, .int .i64, .int .i64, .int .i64] (.n (.n .e 239 [.int .i64, .int .i64, .int .i64, .int .i64] .e) 240 [.int .i64, .int .i64, .int .i64, .int .i64] .e))) 244 [.sl [.int .i64, .int .i64, .int .i64]] (.n (.n (.n (.n .e 246 [.int .i64, .int .i64, .int .i64] .e) 250 [.int .i64, .int .i64] .e) 251 [.int .i64, .int .i64] (.n (.n .e 254 [.int .i64] .e) 261 [.int .u32] .e)) 263 [.int .u64] (.n (.n (.n .e 273 [.int .u64] .e) 290 [.int .u8] .e) 291 [.int .u8] (.n (.n .e 294 [.int .i32] .e) 295 [.int .i32] .e))))))
end HX

namespace HX
open Go Go.Proofs CX

noncomputable def tyF (t : Nat) : Option CX.Ty := tyB.get t
def ksF (t : Nat) : Option (List Kd) := ksB.get t
noncomputable def fnF (f : Nat) : Option Func := CX.env.fn f
def extF (f : Nat) : Option CX.Ext := match beqN f 9 with
  | true => some (.bool true)
  | false => none
noncomputable def cxE (ro : Addr → Option V) : CX.Env := ⟨tyF, fnF, extF, ro⟩

structure Ctr where
  f : Nat
  sg : Sig
  pre : List (List D) → Prop
  res : List (List D) → Nat → Nat → D

def inlL (l : List (Nat × Func)) (f : Nat) : Option Func := look l f
def sigL (l : List (Nat × Sig)) (f : Nat) : Option Sig := look l f
def sigs (l : List Ctr) : List (Nat × Sig) := l.map fun c => (c.f, c.sg)
def ctrOf : List Ctr → Nat → Option Ctr
  | [], _ => none
  | c :: r, f => if c.f = f then some c else ctrOf r f
def preOf (l : List Ctr) (f : Nat) (ds : List (List D)) : Prop := match ctrOf l f with
  | some c => c.pre ds
  | none => False
def resOf (l : List Ctr) (f : Nat) (ds : List (List D)) : Nat → Nat → D := match ctrOf l f with
  | some c => c.res ds
  | none => fun _ _ => .nil
end HX

namespace HX
open Go Go.Proofs CX

inductive Inls (E : CX.Env) : List (Nat × Func) → Prop
  | nil : Inls E []
  | cons {f : Nat} {fn : Func} {l : List (Nat × Func)} (h : E.fn f = some fn) (h' : E.ext f = none) (r : Inls E l) : Inls E ((f, fn) :: l)
theorem Inls.ok {E : CX.Env} : ∀ {l : List (Nat × Func)}, Inls E l → ∀ f fn, inlL l f = some fn → E.fn f = some fn ∧ E.ext f = none
  | [], _, f, fn, h => by simp [inlL, look] at h
  | (g, gn) :: l, .cons h1 h2 r, f, fn, h => by
    unfold inlL at h
    rw [look_cons] at h
    split at h
    · rename_i e
      simp only [Option.some.injEq] at h
      subst e h
      exact ⟨h1, h2⟩
    · exact r.ok f fn h

def mxI (x y : Int) : Int := if x < y then y else x
theorem mxI_eq (x y : Int) : mxI x y = max x y := by unfold mxI; split <;> omega
theorem dt {p : Prop} [d : Decidable p] (h : decide p = true) : p := of_decide_eq_true h
theorem df {p : Prop} [d : Decidable p] (h : decide p = false) : ¬ p := of_decide_eq_false h
theorem nt {b : Bool} (h : (!b) = true) : b = false := by simpa using h
theorem nf {b : Bool} (h : (!b) = false) : b = true := by simpa using h
end HX

namespace HX
open Go Go.Proofs CX
abbrev v3a (fn : Nat → List (List D) → Nat → Nat → D) (a0 : Rows) (a1_0 : Int) (a1_1 : Int) := ((D.boo (fn 10 [[D.l a0], [D.i (D.int (fn 11 [[D.i a1_0, D.i a1_1]] 0 0)), D.i (D.int (fn 11 [[D.i a1_0, D.i a1_1]] 0 1))]] 0 0)) == (D.boo (fn 12 [[D.l a0], [D.i a1_0, D.i a1_1]] 0 0)))
abbrev v3b (fn : Nat → List (List D) → Nat → Nat → D) (a1_0 : Int) (a1_1 : Int) := ((D.int (fn 13 [[D.i (D.int (fn 11 [[D.i a1_0, D.i a1_1]] 0 0)), D.i (D.int (fn 11 [[D.i a1_0, D.i a1_1]] 0 1))]] 0 0)) = (D.int (fn 14 [[D.i a1_0, D.i a1_1]] 0 0)))
abbrev v3c (fn : Nat → List (List D) → Nat → Nat → D) (a0 : Rows) (a1_0 : Int) (a1_1 : Int) := ((D.int (fn 10 [[D.l a0], [D.i (D.int (fn 11 [[D.i a1_0, D.i a1_1]] 0 0)), D.i (D.int (fn 11 [[D.i a1_0, D.i a1_1]] 0 1))]] 1 0)) = (D.int (fn 12 [[D.l a0], [D.i a1_0, D.i a1_1]] 1 0)))
abbrev v3d (fn : Nat → List (List D) → Nat → Nat → D) (a0 : Rows) (a1_0 : Int) (a1_1 : Int) := (fn 19 [[D.l (D.rows (fn 17 [[D.l a0], [D.i (D.int (fn 11 [[D.i a1_0, D.i a1_1]] 0 0)), D.i (D.int (fn 11 [[D.i a1_0, D.i a1_1]] 0 1))]] 0 0))], [D.l (D.rows (fn 18 [[D.l a0], [D.i a1_0, D.i a1_1]] 0 0))]] 0 0)
abbrev v3e (fn : Nat → List (List D) → Nat → Nat → D) (a0 : Rows) (a2 : Int) := ((D.int (fn 15 [[D.l a0], [D.i a2]] 0 0)) = (D.int (fn 16 [[D.l a0], [D.i a2]] 0 0)))
abbrev v3f (fn : Nat → List (List D) → Nat → Nat → D) (a0 : Rows) (a2 : Int) := ((D.int (fn 15 [[D.l a0], [D.i a2]] 1 0)) = (D.int (fn 16 [[D.l a0], [D.i a2]] 1 0)))
abbrev v3g (fn : Nat → List (List D) → Nat → Nat → D) (a0 : Rows) (a1_0 : Int) (a1_1 : Int) := (D.int (fn 17 [[D.l a0], [D.i (D.int (fn 11 [[D.i a1_0, D.i a1_1]] 0 0)), D.i (D.int (fn 11 [[D.i a1_0, D.i a1_1]] 0 1))]] 1 0))
structure V3 (pre : Nat → List (List D) → Prop) (fn : Nat → List (List D) → Nat → Nat → D) (a0 : Rows) (a1_0 : Int) (a1_1 : Int) (a2 : Int) (R : Nat → Nat → D)  : Prop where
  g0 : (60 < (a0.length : Int)) → ((a0.length : Int) ≤ 1024) → pre 9 []
  g1 : (60 < (a0.length : Int)) → ((a0.length : Int) ≤ 1024) → R 0 0 = D.b (D.boo (fn 9 [] 0 0))
  g2 : (60 < (a0.length : Int)) → (¬ (a0.length : Int) ≤ 1024) → (1030 < (a0.length : Int)) → pre 9 []
  g3 : (60 < (a0.length : Int)) → (¬ (a0.length : Int) ≤ 1024) → (1030 < (a0.length : Int)) → R 0 0 = D.b (D.boo (fn 9 [] 0 0))
  g4 : (60 < (a0.length : Int)) → (¬ (a0.length : Int) ≤ 1024) → (¬ 1030 < (a0.length : Int)) → pre 11 [[D.i a1_0, D.i a1_1]]
  g5 : (60 < (a0.length : Int)) → (¬ (a0.length : Int) ≤ 1024) → (¬ 1030 < (a0.length : Int)) → pre 10 [[D.l a0], [D.i (D.int (fn 11 [[D.i a1_0, D.i a1_1]] 0 0)), D.i (D.int (fn 11 [[D.i a1_0, D.i a1_1]] 0 1))]]
  g6 : (60 < (a0.length : Int)) → (¬ (a0.length : Int) ≤ 1024) → (¬ 1030 < (a0.length : Int)) → pre 12 [[D.l a0], [D.i a1_0, D.i a1_1]]
  g8 : (60 < (a0.length : Int)) → (¬ (a0.length : Int) ≤ 1024) → (¬ 1030 < (a0.length : Int)) → pre 13 [[D.i (D.int (fn 11 [[D.i a1_0, D.i a1_1]] 0 0)), D.i (D.int (fn 11 [[D.i a1_0, D.i a1_1]] 0 1))]]
  g9 : (60 < (a0.length : Int)) → (¬ (a0.length : Int) ≤ 1024) → (¬ 1030 < (a0.length : Int)) → pre 14 [[D.i a1_0, D.i a1_1]]
  g10 : (60 < (a0.length : Int)) → (¬ (a0.length : Int) ≤ 1024) → (¬ 1030 < (a0.length : Int)) → (¬ (D.int (fn 13 [[D.i (D.int (fn 11 [[D.i a1_0, D.i a1_1]] 0 0)), D.i (D.int (fn 11 [[D.i a1_0, D.i a1_1]] 0 1))]] 0 0)) = (D.int (fn 14 [[D.i a1_0, D.i a1_1]] 0 0))) → R 0 0 = D.b false
  g11 : (60 < (a0.length : Int)) → (¬ (a0.length : Int) ≤ 1024) → (¬ 1030 < (a0.length : Int)) → (v3b fn a1_0 a1_1) → ((v3a fn a0 a1_0 a1_1) = false) → R 0 0 = D.b false
  g12 : (60 < (a0.length : Int)) → (¬ (a0.length : Int) ≤ 1024) → (¬ 1030 < (a0.length : Int)) → (v3b fn a1_0 a1_1) → ((v3a fn a0 a1_0 a1_1) = true) → (¬ (D.int (fn 10 [[D.l a0], [D.i (D.int (fn 11 [[D.i a1_0, D.i a1_1]] 0 0)), D.i (D.int (fn 11 [[D.i a1_0, D.i a1_1]] 0 1))]] 1 0)) = (D.int (fn 12 [[D.l a0], [D.i a1_0, D.i a1_1]] 1 0))) → R 0 0 = D.b false
  g13 : (60 < (a0.length : Int)) → (¬ (a0.length : Int) ≤ 1024) → (¬ 1030 < (a0.length : Int)) → (v3b fn a1_0 a1_1) → ((v3a fn a0 a1_0 a1_1) = true) → (v3c fn a0 a1_0 a1_1) → pre 15 [[D.l a0], [D.i a2]]
  g14 : (60 < (a0.length : Int)) → (¬ (a0.length : Int) ≤ 1024) → (¬ 1030 < (a0.length : Int)) → (v3b fn a1_0 a1_1) → ((v3a fn a0 a1_0 a1_1) = true) → (v3c fn a0 a1_0 a1_1) → pre 16 [[D.l a0], [D.i a2]]
  g15 : (60 < (a0.length : Int)) → (¬ (a0.length : Int) ≤ 1024) → (¬ 1030 < (a0.length : Int)) → (v3b fn a1_0 a1_1) → ((v3a fn a0 a1_0 a1_1) = true) → (v3c fn a0 a1_0 a1_1) → (¬ (D.int (fn 15 [[D.l a0], [D.i a2]] 0 0)) = (D.int (fn 16 [[D.l a0], [D.i a2]] 0 0))) → R 0 0 = D.b false
  g16 : (60 < (a0.length : Int)) → (¬ (a0.length : Int) ≤ 1024) → (¬ 1030 < (a0.length : Int)) → (v3b fn a1_0 a1_1) → ((v3a fn a0 a1_0 a1_1) = true) → (v3c fn a0 a1_0 a1_1) → (v3e fn a0 a2) → (¬ (D.int (fn 15 [[D.l a0], [D.i a2]] 1 0)) = (D.int (fn 16 [[D.l a0], [D.i a2]] 1 0))) → R 0 0 = D.b false
  g17 : (60 < (a0.length : Int)) → (¬ (a0.length : Int) ≤ 1024) → (¬ 1030 < (a0.length : Int)) → (v3b fn a1_0 a1_1) → ((v3a fn a0 a1_0 a1_1) = true) → (v3c fn a0 a1_0 a1_1) → (v3e fn a0 a2) → (v3f fn a0 a2) → pre 11 [[D.i a1_0, D.i a1_1]]
  g18 : (60 < (a0.length : Int)) → (¬ (a0.length : Int) ≤ 1024) → (¬ 1030 < (a0.length : Int)) → (v3b fn a1_0 a1_1) → ((v3a fn a0 a1_0 a1_1) = true) → (v3c fn a0 a1_0 a1_1) → (v3e fn a0 a2) → (v3f fn a0 a2) → pre 17 [[D.l a0], [D.i (D.int (fn 11 [[D.i a1_0, D.i a1_1]] 0 0)), D.i (D.int (fn 11 [[D.i a1_0, D.i a1_1]] 0 1))]]
  g19 : (60 < (a0.length : Int)) → (¬ (a0.length : Int) ≤ 1024) → (¬ 1030 < (a0.length : Int)) → (v3b fn a1_0 a1_1) → ((v3a fn a0 a1_0 a1_1) = true) → (v3c fn a0 a1_0 a1_1) → (v3e fn a0 a2) → (v3f fn a0 a2) → pre 18 [[D.l a0], [D.i a1_0, D.i a1_1]]
  g20 : (60 < (a0.length : Int)) → (¬ (a0.length : Int) ≤ 1024) → (¬ 1030 < (a0.length : Int)) → (v3b fn a1_0 a1_1) → ((v3a fn a0 a1_0 a1_1) = true) → (v3c fn a0 a1_0 a1_1) → (v3e fn a0 a2) → (v3f fn a0 a2) → pre 19 [[D.l (D.rows (fn 17 [[D.l a0], [D.i (D.int (fn 11 [[D.i a1_0, D.i a1_1]] 0 0)), D.i (D.int (fn 11 [[D.i a1_0, D.i a1_1]] 0 1))]] 0 0))], [D.l (D.rows (fn 18 [[D.l a0], [D.i a1_0, D.i a1_1]] 0 0))]]
  g21 : (60 < (a0.length : Int)) → (¬ (a0.length : Int) ≤ 1024) → (¬ 1030 < (a0.length : Int)) → (v3b fn a1_0 a1_1) → ((v3a fn a0 a1_0 a1_1) = true) → (v3c fn a0 a1_0 a1_1) → (v3e fn a0 a2) → (v3f fn a0 a2) → (D.boo (v3d fn a0 a1_0 a1_1) = true) → ((v3g fn a0 a1_0 a1_1) = (D.int (fn 18 [[D.l a0], [D.i a1_0, D.i a1_1]] 1 0))) → pre 9 []
  g22 : (60 < (a0.length : Int)) → (¬ (a0.length : Int) ≤ 1024) → (¬ 1030 < (a0.length : Int)) → (v3b fn a1_0 a1_1) → ((v3a fn a0 a1_0 a1_1) = true) → (v3c fn a0 a1_0 a1_1) → (v3e fn a0 a2) → (v3f fn a0 a2) → (D.boo (v3d fn a0 a1_0 a1_1) = true) → ((v3g fn a0 a1_0 a1_1) = (D.int (fn 18 [[D.l a0], [D.i a1_0, D.i a1_1]] 1 0))) → R 0 0 = D.b (D.boo (fn 9 [] 0 0))
  g23 : (60 < (a0.length : Int)) → (¬ (a0.length : Int) ≤ 1024) → (¬ 1030 < (a0.length : Int)) → (v3b fn a1_0 a1_1) → ((v3a fn a0 a1_0 a1_1) = true) → (v3c fn a0 a1_0 a1_1) → (v3e fn a0 a2) → (v3f fn a0 a2) → (D.boo (v3d fn a0 a1_0 a1_1) = true) → (¬ (v3g fn a0 a1_0 a1_1) = (D.int (fn 18 [[D.l a0], [D.i a1_0, D.i a1_1]] 1 0))) → R 0 0 = D.b false
  g24 : (60 < (a0.length : Int)) → (¬ (a0.length : Int) ≤ 1024) → (¬ 1030 < (a0.length : Int)) → (v3b fn a1_0 a1_1) → ((v3a fn a0 a1_0 a1_1) = true) → (v3c fn a0 a1_0 a1_1) → (v3e fn a0 a2) → (v3f fn a0 a2) → (D.boo (v3d fn a0 a1_0 a1_1) = false) → R 0 0 = D.b false
  g25 : (¬ 60 < (a0.length : Int)) → (1030 < (a0.length : Int)) → pre 9 []
  g26 : (¬ 60 < (a0.length : Int)) → (1030 < (a0.length : Int)) → R 0 0 = D.b (D.boo (fn 9 [] 0 0))
  g27 : (¬ 60 < (a0.length : Int)) → (¬ 1030 < (a0.length : Int)) → pre 11 [[D.i a1_0, D.i a1_1]]
  g28 : (¬ 60 < (a0.length : Int)) → (¬ 1030 < (a0.length : Int)) → pre 10 [[D.l a0], [D.i (D.int (fn 11 [[D.i a1_0, D.i a1_1]] 0 0)), D.i (D.int (fn 11 [[D.i a1_0, D.i a1_1]] 0 1))]]
  g29 : (¬ 60 < (a0.length : Int)) → (¬ 1030 < (a0.length : Int)) → pre 12 [[D.l a0], [D.i a1_0, D.i a1_1]]
  g31 : (¬ 60 < (a0.length : Int)) → (¬ 1030 < (a0.length : Int)) → pre 13 [[D.i (D.int (fn 11 [[D.i a1_0, D.i a1_1]] 0 0)), D.i (D.int (fn 11 [[D.i a1_0, D.i a1_1]] 0 1))]]
  g32 : (¬ 60 < (a0.length : Int)) → (¬ 1030 < (a0.length : Int)) → pre 14 [[D.i a1_0, D.i a1_1]]
  g33 : (¬ 60 < (a0.length : Int)) → (¬ 1030 < (a0.length : Int)) → (¬ (D.int (fn 13 [[D.i (D.int (fn 11 [[D.i a1_0, D.i a1_1]] 0 0)), D.i (D.int (fn 11 [[D.i a1_0, D.i a1_1]] 0 1))]] 0 0)) = (D.int (fn 14 [[D.i a1_0, D.i a1_1]] 0 0))) → R 0 0 = D.b false
  g34 : (¬ 60 < (a0.length : Int)) → (¬ 1030 < (a0.length : Int)) → (v3b fn a1_0 a1_1) → ((v3a fn a0 a1_0 a1_1) = false) → R 0 0 = D.b false
  g35 : (¬ 60 < (a0.length : Int)) → (¬ 1030 < (a0.length : Int)) → (v3b fn a1_0 a1_1) → ((v3a fn a0 a1_0 a1_1) = true) → (¬ (D.int (fn 10 [[D.l a0], [D.i (D.int (fn 11 [[D.i a1_0, D.i a1_1]] 0 0)), D.i (D.int (fn 11 [[D.i a1_0, D.i a1_1]] 0 1))]] 1 0)) = (D.int (fn 12 [[D.l a0], [D.i a1_0, D.i a1_1]] 1 0))) → R 0 0 = D.b false
  g36 : (¬ 60 < (a0.length : Int)) → (¬ 1030 < (a0.length : Int)) → (v3b fn a1_0 a1_1) → ((v3a fn a0 a1_0 a1_1) = true) → (v3c fn a0 a1_0 a1_1) → pre 15 [[D.l a0], [D.i a2]]
  g37 : (¬ 60 < (a0.length : Int)) → (¬ 1030 < (a0.length : Int)) → (v3b fn a1_0 a1_1) → ((v3a fn a0 a1_0 a1_1) = true) → (v3c fn a0 a1_0 a1_1) → pre 16 [[D.l a0], [D.i a2]]
  g38 : (¬ 60 < (a0.length : Int)) → (¬ 1030 < (a0.length : Int)) → (v3b fn a1_0 a1_1) → ((v3a fn a0 a1_0 a1_1) = true) → (v3c fn a0 a1_0 a1_1) → (¬ (D.int (fn 15 [[D.l a0], [D.i a2]] 0 0)) = (D.int (fn 16 [[D.l a0], [D.i a2]] 0 0))) → R 0 0 = D.b false
  g39 : (¬ 60 < (a0.length : Int)) → (¬ 1030 < (a0.length : Int)) → (v3b fn a1_0 a1_1) → ((v3a fn a0 a1_0 a1_1) = true) → (v3c fn a0 a1_0 a1_1) → (v3e fn a0 a2) → (¬ (D.int (fn 15 [[D.l a0], [D.i a2]] 1 0)) = (D.int (fn 16 [[D.l a0], [D.i a2]] 1 0))) → R 0 0 = D.b false
  g40 : (¬ 60 < (a0.length : Int)) → (¬ 1030 < (a0.length : Int)) → (v3b fn a1_0 a1_1) → ((v3a fn a0 a1_0 a1_1) = true) → (v3c fn a0 a1_0 a1_1) → (v3e fn a0 a2) → (v3f fn a0 a2) → pre 11 [[D.i a1_0, D.i a1_1]]
  g41 : (¬ 60 < (a0.length : Int)) → (¬ 1030 < (a0.length : Int)) → (v3b fn a1_0 a1_1) → ((v3a fn a0 a1_0 a1_1) = true) → (v3c fn a0 a1_0 a1_1) → (v3e fn a0 a2) → (v3f fn a0 a2) → pre 17 [[D.l a0], [D.i (D.int (fn 11 [[D.i a1_0, D.i a1_1]] 0 0)), D.i (D.int (fn 11 [[D.i a1_0, D.i a1_1]] 0 1))]]
  g42 : (¬ 60 < (a0.length : Int)) → (¬ 1030 < (a0.length : Int)) → (v3b fn a1_0 a1_1) → ((v3a fn a0 a1_0 a1_1) = true) → (v3c fn a0 a1_0 a1_1) → (v3e fn a0 a2) → (v3f fn a0 a2) → pre 18 [[D.l a0], [D.i a1_0, D.i a1_1]]
  g43 : (¬ 60 < (a0.length : Int)) → (¬ 1030 < (a0.length : Int)) → (v3b fn a1_0 a1_1) → ((v3a fn a0 a1_0 a1_1) = true) → (v3c fn a0 a1_0 a1_1) → (v3e fn a0 a2) → (v3f fn a0 a2) → pre 19 [[D.l (D.rows (fn 17 [[D.l a0], [D.i (D.int (fn 11 [[D.i a1_0, D.i a1_1]] 0 0)), D.i (D.int (fn 11 [[D.i a1_0, D.i a1_1]] 0 1))]] 0 0))], [D.l (D.rows (fn 18 [[D.l a0], [D.i a1_0, D.i a1_1]] 0 0))]]
  g44 : (¬ 60 < (a0.length : Int)) → (¬ 1030 < (a0.length : Int)) → (v3b fn a1_0 a1_1) → ((v3a fn a0 a1_0 a1_1) = true) → (v3c fn a0 a1_0 a1_1) → (v3e fn a0 a2) → (v3f fn a0 a2) → (D.boo (v3d fn a0 a1_0 a1_1) = true) → ((v3g fn a0 a1_0 a1_1) = (D.int (fn 18 [[D.l a0], [D.i a1_0, D.i a1_1]] 1 0))) → pre 9 []
  g45 : (¬ 60 < (a0.length : Int)) → (¬ 1030 < (a0.length : Int)) → (v3b fn a1_0 a1_1) → ((v3a fn a0 a1_0 a1_1) = true) → (v3c fn a0 a1_0 a1_1) → (v3e fn a0 a2) → (v3f fn a0 a2) → (D.boo (v3d fn a0 a1_0 a1_1) = true) → ((v3g fn a0 a1_0 a1_1) = (D.int (fn 18 [[D.l a0], [D.i a1_0, D.i a1_1]] 1 0))) → R 0 0 = D.b (D.boo (fn 9 [] 0 0))
  g46 : (¬ 60 < (a0.length : Int)) → (¬ 1030 < (a0.length : Int)) → (v3b fn a1_0 a1_1) → ((v3a fn a0 a1_0 a1_1) = true) → (v3c fn a0 a1_0 a1_1) → (v3e fn a0 a2) → (v3f fn a0 a2) → (D.boo (v3d fn a0 a1_0 a1_1) = true) → (¬ (v3g fn a0 a1_0 a1_1) = (D.int (fn 18 [[D.l a0], [D.i a1_0, D.i a1_1]] 1 0))) → R 0 0 = D.b false
  g47 : (¬ 60 < (a0.length : Int)) → (¬ 1030 < (a0.length : Int)) → (v3b fn a1_0 a1_1) → ((v3a fn a0 a1_0 a1_1) = true) → (v3c fn a0 a1_0 a1_1) → (v3e fn a0 a2) → (v3f fn a0 a2) → (D.boo (v3d fn a0 a1_0 a1_1) = false) → R 0 0 = D.b false
end HX

namespace HX
open Go Go.Proofs CX
set_option maxHeartbeats 4000000 in
set_option maxRecDepth 100000 in
theorem walk3 {ro A pre fn} (hE : EnvOk ⟨A, (cxE ro), ksF, sigL [(9, ⟨[], [(false, [.bool])], false⟩), (10, ⟨[(false, [.sl [.int .i64]]), (true, [.int .i64, .int .i64])], [(false, [.bool]), (false, [.int .i64])], false⟩), (11, ⟨[(true, [.int .i64, .int .i64])], [(true, [.int .i64, .int .i64])], false⟩), (12, ⟨[(false, [.sl [.int .i64]]), (true, [.int .i64, .int .i64])], [(false, [.bool]), (false, [.int .i64])], false⟩), (13, ⟨[(true, [.int .i64, .int .i64])], [(false, [.int .i64])], false⟩), (14, ⟨[(true, [.int .i64, .int .i64])], [(false, [.int .i64])], false⟩), (15, ⟨[(false, [.sl [.int .i64]]), (false, [.int .i64])], [(false, [.int .i64]), (false, [.int .i64])], false⟩), (16, ⟨[(false, [.sl [.int .i64]]), (false, [.int .i64])], [(false, [.int .i64]), (false, [.int .i64])], false⟩), (17, ⟨[(false, [.sl [.int .i64]]), (true, [.int .i64, .int .i64])], [(false, [.sl [.int .i64]]), (false, [.int .i64])], false⟩), (18, ⟨[(false, [.sl [.int .i64]]), (true, [.int .i64, .int .i64])], [(false, [.sl [.int .i64]]), (false, [.int .i64])], false⟩), (19, ⟨[(false, [.sl [.int .i64]]), (false, [.sl [.int .i64]])], [(false, [.bool])], false⟩)], pre, fn⟩) {P : List (List D) → Prop} {res : List (List D) → Nat → Nat → D}
    (hv : ∀ (a0 : Rows) (a1_0 : Int) (a1_1 : Int) (a2 : Int), ShR [.int .i64] a0 → P [[.l a0], [.i a1_0, .i a1_1], [.i a2]] → V3 pre fn a0 a1_0 a1_1 a2 (res [[.l a0], [.i a1_0, .i a1_1], [.i a2]]) ) :
    PureC0 (cxE ro) 3 ⟨[(false, [.sl [.int .i64]]), (true, [.int .i64, .int .i64]), (false, [.int .i64])], [(false, [.bool])], false⟩ P res := by
  have hA := hE.A
  simp only [] at hA
  have hinl : ∀ f fn, inlL [] f = some fn → (cxE ro).fn f = some fn ∧ (cxE ro).ext f = none := Inls.ok (by repeat (first | exact .nil | refine .cons rfl rfl ?_))
  refine PureC0.of_vc hE hinl 6 (f := 3) (fn := Tryz.f3) ⟨rfl, rfl⟩ ?_
  intro a0 ha0 a1_0 a1_1 a2 hP
  obtain ⟨R, hR⟩ : ∃ R, res [[.l a0], [.i a1_0, .i a1_1], [.i a2]] = R := ⟨_, rfl⟩
  rw [hR]
  have hV := hv a0 a1_0 a1_1 a2 ha0 hP
  rw [hR] at hV
  clear hR hP hv
  cbv
  repeat' (first | (refine Br.mk (fun _ => ?_) (fun _ => ?_) <;> cbv) | (refine NilB.mk (fun _ => ?_) ?_ <;> cbv) | refine And.intro ?_ ?_ | exact True.intro)
  · rename_i p0a p0b
    subst hA; exact hV.g0 (dt p0a) (dt p0b)
  · rename_i p1a p1b
    subst hA; exact hV.g1 (dt p1a) (dt p1b)
  · rename_i p2a p2b p2c
    subst hA; exact hV.g2 (dt p2a) (df p2b) (dt p2c)
  · rename_i p3a p3b p3c
    subst hA; exact hV.g3 (dt p3a) (df p3b) (dt p3c)
  · rename_i p4a p4b p4c
    subst hA; exact hV.g4 (dt p4a) (df p4b) (df p4c)
  · rename_i p5a p5b p5c
    subst hA; exact hV.g5 (dt p5a) (df p5b) (df p5c)
  · rename_i p6a p6b p6c
    subst hA; exact hV.g6 (dt p6a) (df p6b) (df p6c)
  · rename_i p7a p7b p7c
    subst hA; exact hV.g4 (dt p7a) (df p7b) (df p7c)
  · rename_i p8a p8b p8c
    subst hA; exact hV.g8 (dt p8a) (df p8b) (df p8c)
  · rename_i p9a p9b p9c
    subst hA; exact hV.g9 (dt p9a) (df p9b) (df p9c)
  · rename_i p10a p10b p10c p10d
    subst hA; exact hV.g10 (dt p10a) (df p10b) (df p10c) (df (nt p10d))
  · rename_i p11a p11b p11c p11d p11e
    subst hA; exact hV.g11 (dt p11a) (df p11b) (df p11c) (dt (nf p11d)) (nt p11e)
  · rename_i p12a p12b p12c p12d p12e p12f
    subst hA; exact hV.g12 (dt p12a) (df p12b) (df p12c) (dt (nf p12d)) (nf p12e) (df (nt p12f))
  · rename_i p13a p13b p13c p13d p13e p13f
    subst hA; exact hV.g13 (dt p13a) (df p13b) (df p13c) (dt (nf p13d)) (nf p13e) (dt (nf p13f))
  · rename_i p14a p14b p14c p14d p14e p14f
    subst hA; exact hV.g14 (dt p14a) (df p14b) (df p14c) (dt (nf p14d)) (nf p14e) (dt (nf p14f))
  · rename_i p15a p15b p15c p15d p15e p15f p15g
    subst hA; exact hV.g15 (dt p15a) (df p15b) (df p15c) (dt (nf p15d)) (nf p15e) (dt (nf p15f)) (df (nt p15g))
  · rename_i p16a p16b p16c p16d p16e p16f p16g p16h
    subst hA; exact hV.g16 (dt p16a) (df p16b) (df p16c) (dt (nf p16d)) (nf p16e) (dt (nf p16f)) (dt (nf p16g)) (df (nt p16h))
  · rename_i p17a p17b p17c p17d p17e p17f p17g p17h
    subst hA; exact hV.g17 (dt p17a) (df p17b) (df p17c) (dt (nf p17d)) (nf p17e) (dt (nf p17f)) (dt (nf p17g)) (dt (nf p17h))
  · rename_i p18a p18b p18c p18d p18e p18f p18g p18h
    subst hA; exact hV.g18 (dt p18a) (df p18b) (df p18c) (dt (nf p18d)) (nf p18e) (dt (nf p18f)) (dt (nf p18g)) (dt (nf p18h))
  · rename_i p19a p19b p19c p19d p19e p19f p19g p19h
    subst hA; exact hV.g19 (dt p19a) (df p19b) (df p19c) (dt (nf p19d)) (nf p19e) (dt (nf p19f)) (dt (nf p19g)) (dt (nf p19h))
  · rename_i p20a p20b p20c p20d p20e p20f p20g p20h
    subst hA; exact hV.g20 (dt p20a) (df p20b) (df p20c) (dt (nf p20d)) (nf p20e) (dt (nf p20f)) (dt (nf p20g)) (dt (nf p20h))
  · rename_i p21a p21b p21c p21d p21e p21f p21g p21h p21i p21j
    subst hA; exact hV.g21 (dt p21a) (df p21b) (df p21c) (dt (nf p21d)) (nf p21e) (dt (nf p21f)) (dt (nf p21g)) (dt (nf p21h)) p21i (dt p21j)
  · rename_i p22a p22b p22c p22d p22e p22f p22g p22h p22i p22j
    subst hA; exact hV.g22 (dt p22a) (df p22b) (df p22c) (dt (nf p22d)) (nf p22e) (dt (nf p22f)) (dt (nf p22g)) (dt (nf p22h)) p22i (dt p22j)
  · rename_i p23a p23b p23c p23d p23e p23f p23g p23h p23i p23j
    subst hA; exact hV.g23 (dt p23a) (df p23b) (df p23c) (dt (nf p23d)) (nf p23e) (dt (nf p23f)) (dt (nf p23g)) (dt (nf p23h)) p23i (df p23j)
  · rename_i p24a p24b p24c p24d p24e p24f p24g p24h p24i
    subst hA; exact hV.g24 (dt p24a) (df p24b) (df p24c) (dt (nf p24d)) (nf p24e) (dt (nf p24f)) (dt (nf p24g)) (dt (nf p24h)) p24i
  · rename_i p25a p25b
    subst hA; exact hV.g25 (df p25a) (dt p25b)
  · rename_i p26a p26b
    subst hA; exact hV.g26 (df p26a) (dt p26b)
  · rename_i p27a p27b
    subst hA; exact hV.g27 (df p27a) (df p27b)
  · rename_i p28a p28b
    subst hA; exact hV.g28 (df p28a) (df p28b)
  · rename_i p29a p29b
    subst hA; exact hV.g29 (df p29a) (df p29b)
  · rename_i p30a p30b
    subst hA; exact hV.g27 (df p30a) (df p30b)
  · rename_i p31a p31b
    subst hA; exact hV.g31 (df p31a) (df p31b)
  · rename_i p32a p32b
    subst hA; exact hV.g32 (df p32a) (df p32b)
  · rename_i p33a p33b p33c
    subst hA; exact hV.g33 (df p33a) (df p33b) (df (nt p33c))
  · rename_i p34a p34b p34c p34d
    subst hA; exact hV.g34 (df p34a) (df p34b) (dt (nf p34c)) (nt p34d)
  · rename_i p35a p35b p35c p35d p35e
    subst hA; exact hV.g35 (df p35a) (df p35b) (dt (nf p35c)) (nf p35d) (df (nt p35e))
  · rename_i p36a p36b p36c p36d p36e
    subst hA; exact hV.g36 (df p36a) (df p36b) (dt (nf p36c)) (nf p36d) (dt (nf p36e))
  · rename_i p37a p37b p37c p37d p37e
    subst hA; exact hV.g37 (df p37a) (df p37b) (dt (nf p37c)) (nf p37d) (dt (nf p37e))
  · rename_i p38a p38b p38c p38d p38e p38f
    subst hA; exact hV.g38 (df p38a) (df p38b) (dt (nf p38c)) (nf p38d) (dt (nf p38e)) (df (nt p38f))
  · rename_i p39a p39b p39c p39d p39e p39f p39g
    subst hA; exact hV.g39 (df p39a) (df p39b) (dt (nf p39c)) (nf p39d) (dt (nf p39e)) (dt (nf p39f)) (df (nt p39g))
  · rename_i p40a p40b p40c p40d p40e p40f p40g
    subst hA; exact hV.g40 (df p40a) (df p40b) (dt (nf p40c)) (nf p40d) (dt (nf p40e)) (dt (nf p40f)) (dt (nf p40g))
  · rename_i p41a p41b p41c p41d p41e p41f p41g
    subst hA; exact hV.g41 (df p41a) (df p41b) (dt (nf p41c)) (nf p41d) (dt (nf p41e)) (dt (nf p41f)) (dt (nf p41g))
  · rename_i p42a p42b p42c p42d p42e p42f p42g
    subst hA; exact hV.g42 (df p42a) (df p42b) (dt (nf p42c)) (nf p42d) (dt (nf p42e)) (dt (nf p42f)) (dt (nf p42g))
  · rename_i p43a p43b p43c p43d p43e p43f p43g
    subst hA; exact hV.g43 (df p43a) (df p43b) (dt (nf p43c)) (nf p43d) (dt (nf p43e)) (dt (nf p43f)) (dt (nf p43g))
  · rename_i p44a p44b p44c p44d p44e p44f p44g p44h p44i
    subst hA; exact hV.g44 (df p44a) (df p44b) (dt (nf p44c)) (nf p44d) (dt (nf p44e)) (dt (nf p44f)) (dt (nf p44g)) p44h (dt p44i)
  · rename_i p45a p45b p45c p45d p45e p45f p45g p45h p45i
    subst hA; exact hV.g45 (df p45a) (df p45b) (dt (nf p45c)) (nf p45d) (dt (nf p45e)) (dt (nf p45f)) (dt (nf p45g)) p45h (dt p45i)
  · rename_i p46a p46b p46c p46d p46e p46f p46g p46h p46i
    subst hA; exact hV.g46 (df p46a) (df p46b) (dt (nf p46c)) (nf p46d) (dt (nf p46e)) (dt (nf p46f)) (dt (nf p46g)) p46h (df p46i)
  · rename_i p47a p47b p47c p47d p47e p47f p47g p47h
    subst hA; exact hV.g47 (df p47a) (df p47b) (dt (nf p47c)) (nf p47d) (dt (nf p47e)) (dt (nf p47f)) (dt (nf p47g)) p47h
end HX

namespace HX
open Go Go.Proofs CX

theorem tyB_ok : tyB.All (fun t ty => CX.env.T t = some ty) := by
  unfold tyB
  simp only [BT.All, true_and, and_true]
  repeat' apply And.intro
  all_goals rfl

theorem cxE_ok (ro : Addr → Option V) : CX.EnvOk (cxE ro) Tryz.prog := by
  refine ⟨fun t ty h => CX.env_ok.T t ty (tyB_ok.get h), fun f fn h => CX.env_ok.fn f fn h, CX.env_ok.mixed, fun f b h w => ?_, fun f _ _ _ _ _ _ h => ?_, fun f h => ?_⟩
  rotate_left
  · simp only [cxE, extF] at h
    split at h <;> cases h
  · simp only [cxE, extF] at h
    split at h <;> cases h
  simp only [cxE, extF] at h
  split at h
  · rename_i hb
    simp only [beqN_iff] at hb
    simp only [Option.some.injEq, CX.Ext.bool.injEq] at h
    subst hb h
    exact (CX.works_ok w).mono fun e w' ⟨h1, h2, h3, h4, h5, h6⟩ => ⟨h1, h2, h3, h4, h5, h6⟩
  · cases h

theorem hxT {ro : Addr → Option V} : TOk (cxE ro) := TOk.of (cxE_ok ro)

theorem hxEnv {ro : Addr → Option V} {sig : Nat → Option Sig} {pre : Nat → List (List D) → Prop} {fn : Nat → List (List D) → Nat → Nat → D} (h : ∀ f sg, sig f = some sg → PureC (cxE ro) f sg (pre f) (fn f)) : EnvOk ⟨Ar.std, cxE ro, ksF, sig, pre, fn⟩ := ⟨rfl, hxT, h⟩

theorem works_pure {ro : Addr → Option V} : PureC (cxE ro) 9 ⟨[], [(false, [.bool])], false⟩ (fun _ => True) (fun _ _ _ => .b true) := by
  intro ds _ g bar nx h args hg hbar ha
  cases args with
  | cons _ _ => cases ds <;> simp [ArgsFz] at ha
  | nil =>
    have hfn : ∃ fn c, (cxE ro).fn 9 = some fn ∧ fn.body = some c := ⟨_, _, rfl, rfl⟩
    obtain ⟨fn, c, h1, h2⟩ := hfn
    refine ⟨[.bool true], h, nx, g, Evt.of fun n k => ?_, Nat.le_refl _, fun _ _ => rfl, fun _ _ h => h, fun id o hgo => ⟨hg id o hgo, .inl hgo⟩, ⟨[.bool true], rfl, fun j k hj => ?_, _, rfl, rfl⟩, trivial⟩
    · have hx : (cxE ro).ext 9 = some (.bool true) := rfl
      simp only [callF, h1, h2, hx]
      rfl
    · cases j with
      | zero =>
        simp only [List.getElem?_cons_zero, Option.some.injEq] at hj
        subst hj
        exact ⟨_, rfl, by simp only [FzC]; exact ⟨⟨_, rfl⟩, rfl⟩⟩
      | succ j => simp at hj

theorem call_ro {P : Program} {E : CX.Env} (hE : CX.EnvOk E P) {f : FuncId} {n : Nat} {v : V} {args : List V} {xs : List Value} {h' : T O} {nx' : Nat} {w : World} (hro : RoAt E.ro w) (ha : RvL (fun _ => none) 0 args xs)
    (h : callF E (cx E n) 0 .e 0 f args (fun v h nx => retV v h nx) = retV v h' nx') :
    Calls P f xs.toArray w fun e w' => ∃ u ρ n, e = .returned u ∧ Rv ρ n v u ∧ Kept w w' := by
  obtain ⟨v', g', n', fn, h1, _, _, h2⟩ := callF_ok hE (cx_ok hE n).1 (ρ := fun _ => none) (n := 0) (bar := 0) (g := .e) (w := w) (xs := xs) ⟨hro, fun a v h id o L _ _ hL => by cases hL⟩ ⟨fun id o h => by simp [T.get] at h, fun id o id' o' h => by simp [T.get] at h, fun _ _ => rfl, fun _ _ h => by cases h⟩ ha h
  have e : v' = v := by
    simp only [retV, Option.some.injEq, Prod.mk.injEq, CX.St.mk.injEq, CX.T.n.injEq, true_and, and_true] at h1
    exact h1.1
  subst e
  refine (callsIn_wide.1 (h2 none)).mono fun e w' he => ?_
  obtain ⟨u, ρ', rfl, d1, _, _, _, d5⟩ := he
  refine ⟨u, ρ', n', rfl, d1, d5.os, d5.tape, d5.output, d5.size, fun b hb => d5.keep b hb ?_⟩
  rintro ⟨id, o, L, _, h, _⟩
  simp [T.get] at h
end HX

namespace CX
open Go Go.ChangeShapes Go.WideShapes

theorem Kept.frozen {w w' : World} (h : Kept w w') {a : Addr} (ha : a.block < w.heap.size) : w'.frozen? a = w.frozen? a := by
  simp only [World.frozen?, h.2.2.2.2 a.block ha]

theorem Kept.but {w w' : World} (h : Kept w w') (may : MemPlace → Prop) : w.keptBut w' may := by
  refine ⟨h.1, h.2.2.1, fun i hi => ?_⟩
  rw [h.2.2.2.2 i hi]
  obtain ⟨o, ho⟩ : ∃ o, w.heap[i]? = some o := ⟨w.heap[i], by simp [hi]⟩
  rw [ho]
  cases o with
  | cells c t fr => exact ⟨rfl, rfl, rfl, fun _ _ => rfl⟩
  | map es c => exact .inr ⟨rfl, rfl⟩
  | _ => rfl

section
variable {H : Type} {enc : TypeId × Value → H} {P : Program}

theorem post_kept {f : Func} {s : ChangeSpec} {apart fresh handsOn again : Bool} {W W' : World} {args : Array Value} {v : Value} {ds gs : List (DataW H)} {before pa pv : List MemPlace}
    (hW : DataW.Whole enc P f.params.toList s.vars apart W args.toList ds gs before)
    (hres : ∀ (b : Nat) (sp : Nat → Bool) (hd : Bool), DataW.TrodAll enc P W' b sp hd f.resultTypes.toList (v.resultList f.resultTypes.size) (s.fn H (ds ++ gs)).results [])
    (hargs : ∀ sp : Nat → Bool, (∀ p ∈ before, sp p.block = true) → DataW.TrodAll enc P W' 0 sp true f.params.toList args.toList (s.fn H (ds ++ gs)).args pa)
    (hvars : ∀ sp : Nat → Bool, (∀ p ∈ before, sp p.block = true) → DataW.TrodVars enc P W' sp s.vars (s.fn H (ds ++ gs)).vars pv)
    (hps : before = pa ++ pv) (hk : Kept W W')
    (hok : ∀ (j : Nat) (t : TypeId) (r : Value), f.resultTypes[j]? = some t → (v.resultList f.resultTypes.size)[j]? = some r → Value.okWide P W' .any 0 t r) :
    s.post enc P f apart fresh handsOn again W args v W' := by
  have hold : ∀ p ∈ before, (fun b => decide (b < W.heap.size)) p.block = true := fun p hp => by simpa using hW.lt p hp
  have hlt := hW.lt
  refine ⟨ds, gs, before, [], pa, pv, hW, hres _ _ _, hargs _ hold, hvars _ hold, World.keptBut_mono (fun p hp => ⟨hp, ?_⟩) (hk.but (· ∈ before)), fun _ => ?_⟩
  · rw [hps, List.mem_append] at hp
    exact Or.inr hp
  · obtain ⟨_, _, _, _, _, hz, hn⟩ := hW
    refine ⟨hok, _, _, ([] ++ pa) ++ pv, ⟨[] ++ pa, pv, trodAll_append (hargs _ (fun _ _ => rfl)) (hres _ _ _), hvars _ (fun _ _ => rfl), rfl, ?_, ?_⟩, ?_⟩
    · intro b off hp
      have hp' : MemPlace.cell b off ∈ before := by rw [hps]; simpa using hp
      rw [hk.frozen (hlt _ hp')]
      exact hz b off hp'
    · intro ha
      have := hn ha
      rw [hps] at this
      simpa using this
    · intro p hp _
      rw [hps]
      simpa using hp
end
end CX

namespace HB
open Go Go.ChangeShapes Go.WideShapes Go.ChangeAt Go.RowKit

theorem add_block (a : Addr) (n : Nat) : (a.add n).block = a.block := by unfold Addr.add; split <;> rfl
theorem addr_add2 (a : Addr) (i c : Nat) : (a.add i).add c = a.add (i + c) := by
  unfold Addr.add
  by_cases hi : i = 0
  · subst hi; simp
  · by_cases hc : c = 0
    · subst hc; simp [hi]
    · simp [hi, hc, Nat.add_assoc]

theorem mapM_at {α β : Type} {f : α → Option β} : ∀ {l : List α} {r : List β}, l.mapM f = some r → r.length = l.length ∧ ∀ (i : Nat) (h : i < l.length), ∃ y, f l[i] = some y ∧ r[i]? = some y
  | [], r, h => by
    simp only [List.mapM_nil, Option.pure_def, Option.some.injEq] at h
    subst h
    exact ⟨rfl, fun i h => by simp at h⟩
  | x :: xs, r, h => by
    rw [List.mapM_cons] at h
    cases hx : f x with
    | none => simp [hx] at h
    | some y =>
      cases hxs : xs.mapM f with
      | none => simp [hx, hxs] at h
      | some ys =>
        simp only [hx, hxs, Option.bind_eq_bind, Option.bind_some, Option.pure_def, Option.some.injEq] at h
        subst h
        obtain ⟨h1, h2⟩ := mapM_at hxs
        refine ⟨by simp [h1], fun i hi => ?_⟩
        cases i with
        | zero => exact ⟨y, by simpa using hx, by simp⟩
        | succ i =>
          obtain ⟨z, e1, e2⟩ := h2 i (by simpa using hi)
          exact ⟨z, by simpa using e1, by simpa using e2⟩

theorem cells_get {w : World} {base : Nat} {a : Addr} {n : Nat} {cs : List Value} (h : w.cells? base a n = some cs) : cs.length = n ∧ (0 < n → a.block < w.heap.size) ∧ ∀ c, c < n → w.cell? (a.add c) = cs[c]? := by
  unfold World.cells? at h
  split at h
  · obtain ⟨h1, h2⟩ := mapM_at h
    rw [List.length_range] at h1
    have key : ∀ c, c < n → w.cell? (a.add c) = cs[c]? := fun c hc => by
      obtain ⟨y, e1, e2⟩ := h2 c (by simpa using hc)
      rw [List.getElem_range] at e1
      rw [e1, e2]
    refine ⟨h1, fun h0 => ?_, key⟩
    obtain ⟨y, e1, _⟩ := h2 0 (by simpa using h0)
    rw [List.getElem_range] at e1
    rcases Nat.lt_or_ge a.block w.heap.size with hb | hb
    · exact hb
    · exfalso
      unfold World.cell? at e1
      rw [add_block] at e1
      rw [Array.getElem?_eq_none (by omega)] at e1
      cases e1
  · cases h

section
variable {H : Type} {enc : TypeId × Value → H} {P : Program} {w : World} {base : Nat} {spare : Nat → Bool} {held : Bool}
theorem wf_rng {k : IntKind} {n : Int} (h : (Lit.int k n).wf = true) : k.min ≤ n ∧ n ≤ k.max := by
  simpa [Lit.wf] using h

theorem trod_array {t e : TypeId} {n m : Nat} {cs : List Value} {x : DataW H × List MemPlace} (ht : P.underlying t = some (.array n e)) (h : DataW.trod enc P w base spare held (m + 1) t cs = some x) :
    cs.length = P.cellsOf t ∧ ∀ i, i < n → ∃ y, DataW.trod enc P w base spare held m e ((cs.drop (i * P.cellsOf e)).take (P.cellsOf e)) = some y := by
  unfold DataW.trod at h
  rw [ht] at h
  split at h <;> simp_all
  obtain ⟨hl, h⟩ := h
  obtain ⟨a, h, _⟩ := h
  obtain ⟨h1, h2⟩ := mapM_at h
  intro i hi
  obtain ⟨y, e1, _⟩ := h2 i (by simpa using hi)
  rw [List.getElem_range] at e1
  exact ⟨y.1, y.2, by simpa using e1⟩

def isAgg (P : Program) (t : TypeId) : Bool := match P.underlying t with
  | some (.struct _) => true
  | some (.array _ _) => true
  | _ => false

theorem Kept_same {W W' : World} (h : CX.Kept W W') {p : MemPlace} (hp : p.block < W.heap.size) : W.sameAt W' p := by
  cases p with
  | cell b off =>
    simp only [World.sameAt, World.cell?]
    rw [h.2.2.2.2 b hp]
  | map b => exact h.2.2.2.2 b hp

theorem args_stay (hl : laidOutB P = true) {W W' : World} {sp : Nat → Bool} : ∀ {ts : List TypeId} {vs : List Value} {ds : List (DataW H)} {ps : List MemPlace}, (ts.all fun t => P.readableRec t && decide (t < P.types.size)) = true →
    DataW.TrodAll enc P W base (fun _ => true) true ts vs ds ps → (∀ p ∈ ps, W.sameAt W' p) → (∀ p ∈ ps, sp p.block = true) → DataW.TrodAll enc P W' base sp true ts vs ds ps
  | [], vs, ds, ps, _, h, _, _ => by
    obtain ⟨rfl, rfl, rfl⟩ := trodAll_nil h
    exact trodAll_mk0
  | t :: ts, [], ds, ps, _, h, _, _ => by simp [DataW.TrodAll] at h
  | t :: ts, v :: vs, [], ps, _, h, _, _ => by simp [DataW.TrodAll] at h
  | t :: ts, v :: vs, d :: ds, ps, hr, h, h1, h2 => by
    obtain ⟨p, q, ha, hb, rfl⟩ := h
    simp only [List.all_cons, Bool.and_eq_true, decide_eq_true_eq] at hr
    exact ⟨p, q, Go.WideElems.Trod_stays hl hr.1.1 hr.1.2 ha (fun x hx => h1 x (by simp [hx])) (fun x hx => h2 x (by simp [hx])),
      args_stay hl (by simpa using hr.2) hb (fun x hx => h1 x (by simp [hx])) (fun x hx => h2 x (by simp [hx])), rfl⟩

end
end HB

namespace HX
open Go Go.Proofs Go.ChangeShapes Go.WideShapes Go.ChangeAt Go.RowKit CX

def descF (g : TypeId → Option (List Kd)) (P : Program) : List Field → Nat → Option (List Kd)
  | [], _ => some []
  | f :: r, off => match g f.type with
    | some ks => match beqN f.offset off && beqN (P.cellsOf f.type) ks.length with
      | true => match descF g P r (off + ks.length) with
        | some ks' => some (ks ++ ks')
        | none => none
      | false => none
    | none => none

def repK (ks : List Kd) : Nat → List Kd
  | 0 => []
  | n + 1 => ks ++ repK ks n

def desc (P : Program) : Nat → TypeId → Option (List Kd)
  | 0, _ => none
  | n + 1, t => match P.underlying t with
    | some .bool => some [.bool]
    | some (.int k) => some [.int k]
    | some .string => some [.str]
    | some (.slice e) => match desc P n e with
      | some (k :: ks) => match beqN (P.cellsOf e) (ks.length + 1) with
        | true => some [.sl (k :: ks)]
        | false => none
      | _ => none
    | some (.struct fs) => match descF (desc P n) P fs.toList 0 with
      | some ks => match beqN (P.cellsOf t) ks.length with
        | true => some ks
        | false => none
      | none => none
    | some (.array m e) => match desc P n e with
      | some ks => match beqN (P.cellsOf e) ks.length && beqN (P.cellsOf t) (repK ks m).length with
        | true => some (repK ks m)
        | false => none
      | none => none
    | _ => none

mutual
def RngK : Kd → D → Prop
  | .int k, d => k.min ≤ d.int ∧ d.int ≤ k.max
  | .str, d => ∀ b ∈ d.str, b < 256
  | .sl ks, d => ∀ row ∈ d.rows, RngL ks row
  | _, _ => True
def RngL : List Kd → List D → Prop
  | k :: ks, d :: ds => RngK k d ∧ RngL ks ds
  | _, _ => True
end

mutual
def RdK (w : World) : Kd → D → Value → Prop
  | .int k, d, u => (∃ n, d = .i n) ∧ u = .int k d.int
  | .bool, d, u => (∃ b, d = .b b) ∧ u = .bool d.boo
  | .str, d, u => (∃ s, d = .s s) ∧ u = .string (bytesOf d.str)
  | .fnc _, _, _ => False
  | .pt _, _, _ => False
  | .sl ks, d, u => (∃ rows, d = .l rows ∧ LenR ks rows) ∧ 0 < ks.length ∧ ((d.rows = [] ∧ u = .slice none 0 0) ∨ ∃ a cap, u = .slice (some a) d.rows.length cap ∧ d.rows.length ≤ cap ∧
      ∀ i row, d.rows[i]? = some row → ∃ cs : List Value, (∀ c, c < ks.length → w.cell? (a.add (i * ks.length + c)) = cs[c]?) ∧ RdL w ks row cs)
def RdL (w : World) : List Kd → List D → List Value → Prop
  | [], [], [] => True
  | k :: ks, d :: ds, c :: cs => RdK w k d c ∧ RdL w ks ds cs
  | _, _, _ => False
end

def Holds (w : World) (ks : List Kd) (cs : List Value) : Prop := ∃ l, RdL w ks l cs ∧ RngL ks l

theorem RdL.append {w : World} : ∀ {ks ks' : List Kd} {l l' : List D} {cs cs' : List Value}, RdL w ks l cs → RdL w ks' l' cs' → RdL w (ks ++ ks') (l ++ l') (cs ++ cs')
  | [], _, [], _, [], _, _, h => h
  | _ :: _, _, _ :: _, _, _ :: _, _, h, h' => by
    simp only [RdL, List.cons_append] at h ⊢
    exact ⟨h.1, RdL.append h.2 h'⟩
  | [], _, [], _, _ :: _, _, h, _ => by simp [RdL] at h
  | [], _, _ :: _, _, _, _, h, _ => by simp [RdL] at h
  | _ :: _, _, [], _, _, _, h, _ => by simp [RdL] at h
  | _ :: _, _, _ :: _, _, [], _, h, _ => by simp [RdL] at h

theorem RdL.len {w : World} : ∀ {ks : List Kd} {l : List D} {cs : List Value}, RdL w ks l cs → l.length = ks.length ∧ cs.length = ks.length
  | [], [], [], _ => ⟨rfl, rfl⟩
  | _ :: _, _ :: _, _ :: _, h => by
    simp only [RdL] at h
    have := RdL.len h.2
    exact ⟨by simp [this.1], by simp [this.2]⟩
  | [], [], _ :: _, h => by simp [RdL] at h
  | [], _ :: _, _, h => by simp [RdL] at h
  | _ :: _, [], _, h => by simp [RdL] at h
  | _ :: _, _ :: _, [], h => by simp [RdL] at h

theorem RngL.append : ∀ {ks ks' : List Kd} {l l' : List D}, l.length = ks.length → RngL ks l → RngL ks' l' → RngL (ks ++ ks') (l ++ l')
  | [], _, [], _, _, _, h => h
  | _ :: _, _, _ :: _, _, hl, h, h' => by
    simp only [RngL, List.cons_append] at h ⊢
    exact ⟨h.1, RngL.append (by simpa using hl) h.2 h'⟩
  | [], _, _ :: _, _, hl, _, _ => by simp at hl
  | _ :: _, _, [], _, hl, _, _ => by simp at hl

theorem Holds.append {w : World} {ks ks' : List Kd} {cs cs' : List Value} (h : Holds w ks cs) (h' : Holds w ks' cs') : Holds w (ks ++ ks') (cs ++ cs') := by
  obtain ⟨l, a, b⟩ := h
  obtain ⟨l', a', b'⟩ := h'
  exact ⟨l ++ l', a.append a', b.append a.len.1 b'⟩

theorem Holds.nil {w : World} : Holds w [] [] := ⟨[], trivial, trivial⟩

section
variable {H : Type} {enc : TypeId × Value → H} {P : Program} {w : World} {base : Nat} {spare : Nat → Bool} {held : Bool}

theorem holds_one {k : Kd} {d : D} {u : Value} (h : RdK w k d u) (hr : RngK k d) : Holds w [k] [u] := ⟨[d], ⟨h, trivial⟩, ⟨hr, trivial⟩⟩

theorem holds_rep {ks : List Kd} {cs : List Value} (m : Nat) (hl : cs.length = (repK ks m).length) (h : ∀ i, i < m → Holds w ks ((cs.drop (i * ks.length)).take ks.length)) : Holds w (repK ks m) cs := by
  induction m generalizing cs with
  | zero =>
    have : cs = [] := List.length_eq_zero_iff.1 (by simpa [repK] using hl)
    subst this
    exact Holds.nil
  | succ m ih =>
    have e : cs = cs.take ks.length ++ cs.drop ks.length := (List.take_append_drop _ _).symm
    rw [e]
    refine Holds.append (by simpa using h 0 (by omega)) (ih ?_ fun i hi => ?_)
    · simp only [List.length_drop, hl, repK, List.length_append]
      omega
    · have := h (i + 1) (by omega)
      rwa [List.drop_drop, show ks.length + i * ks.length = (i + 1) * ks.length by rw [Nat.add_mul]; omega]

theorem holds_fields {g : TypeId → Option (List Kd)} {cs : List Value} : ∀ (fs : List Field) (off : Nat) (ks : List Kd), descF g P fs off = some ks → cs.length = off + ks.length →
    (∀ f ∈ fs, ∀ ks', g f.type = some ks' → Holds w ks' ((cs.drop f.offset).take (P.cellsOf f.type))) → Holds w ks (cs.drop off)
  | [], off, ks, h, hl, _ => by
    simp only [descF, Option.some.injEq] at h
    subst h
    have : cs.drop off = [] := List.drop_eq_nil_of_le (by simp at hl; omega)
    rw [this]
    exact Holds.nil
  | f :: r, off, ks, h, hl, hf => by
    simp only [descF] at h
    split at h
    · rename_i ks1 hk
      split at h
      · rename_i hb
        simp only [Bool.and_eq_true, beqN_iff] at hb
        split at h
        · rename_i ks2 hks2
          simp only [Option.some.injEq] at h
          subst h
          have e : cs.drop off = (cs.drop off).take ks1.length ++ (cs.drop off).drop ks1.length := (List.take_append_drop _ _).symm
          rw [e]
          refine Holds.append ?_ ?_
          · have := hf f (by simp) ks1 hk
            rwa [hb.1, hb.2] at this
          · rw [List.drop_drop]
            exact holds_fields r (off + ks1.length) ks2 hks2 (by rw [hl, List.length_append]; omega) (fun f' hf' => hf f' (by simp [hf']))
        · cases h
      · cases h
    · cases h

theorem bytes_of (z : ByteArray) : bytesOf (z.data.toList.map UInt8.toNat) = z := by
  obtain ⟨d⟩ := z
  simp only [bytesOf, List.map_map]
  congr 1
  have : (UInt8.ofNat ∘ UInt8.toNat) = id := by funext x; simp
  rw [this]
  simp

theorem holds_of_trod : ∀ (n : Nat) (t : TypeId) (ks : List Kd), desc P n t = some ks → ∀ (m : Nat) (cs : List Value) (x : DataW H × List MemPlace), DataW.trod enc P w base spare held m t cs = some x → Holds w ks cs
  | 0, _, _, h, _, _, _, _ => by simp [desc] at h
  | n + 1, t, ks, h, m, cs, x, hx => by
    unfold desc at h
    split at h
    · rename_i hu
      simp only [Option.some.injEq] at h
      subst h
      obtain ⟨b, rfl, _⟩ := DataW.trod_bool hu hx
      exact holds_one (d := .b b) ⟨⟨_, rfl⟩, rfl⟩ trivial
    · rename_i k hu
      simp only [Option.some.injEq] at h
      subst h
      obtain ⟨z, rfl, _, hw⟩ := DataW.trod_int hu hx
      exact holds_one (d := .i z) ⟨⟨_, rfl⟩, rfl⟩ (HB.wf_rng hw)
    · rename_i hu
      simp only [Option.some.injEq] at h
      subst h
      obtain ⟨z, rfl, _, _⟩ := DataW.trod_string hu hx
      refine holds_one (d := .s (z.data.toList.map UInt8.toNat)) ⟨⟨_, rfl⟩, ?_⟩ ?_
      · show Value.string z = .string (bytesOf (z.data.toList.map UInt8.toNat))
        rw [bytes_of]
      · intro b hb
        obtain ⟨x, _, rfl⟩ := List.mem_map.1 (show b ∈ z.data.toList.map UInt8.toNat from hb)
        exact x.toNat_lt
    · rename_i e hu
      split at h
      · rename_i k ks' hd
        split at h
        · rename_i hb
          have hb : P.cellsOf e = ks'.length + 1 := by rw [beqN_iff] at hb; exact hb
          simp only [Option.some.injEq] at h
          subst h
          rcases DataW.trod_slice hu hx with ⟨rfl, _⟩ | ⟨a, len, cap, elems, rest, m', rfl, rfl, _, _, h2, h3, h4, h5, _, _⟩
          · exact holds_one (d := .l []) ⟨⟨_, rfl, fun _ h => (by cases h), by simp⟩, by simp, .inl ⟨rfl, rfl⟩⟩ (fun _ h => (by cases h))
          · have row : ∀ i, i < len → ∃ l cs', (∀ c, c < ks'.length + 1 → w.cell? (a.add (i * (ks'.length + 1) + c)) = cs'[c]?) ∧ RdL w (k :: ks') l cs' ∧ RngL (k :: ks') l := by
              intro i hi
              have e1 := h5 i hi
              rw [List.getElem?_eq_getElem (by omega)] at e1
              obtain ⟨cs', c1, c2⟩ := Option.bind_eq_some_iff.1 e1
              obtain ⟨d1, d2, d3⟩ := HB.cells_get c1
              rw [hb] at d1 d2 d3 c1
              obtain ⟨l, g1, g2⟩ := holds_of_trod n e (k :: ks') hd m' cs' _ c2
              refine ⟨l, cs', fun c hc => ?_, g1, g2⟩
              rw [← d3 c hc, HB.addr_add2]
            let rows : Rows := (List.range len).map fun i => if h : i < len then Classical.choose (row i h) else []
            have hlen : rows.length = len := by simp [rows]
            have hget : ∀ i r, rows[i]? = some r → ∃ h : i < len, r = Classical.choose (row i h) := by
              intro i r hr
              have hi : i < len := by rw [← hlen]; exact (List.getElem?_eq_some_iff.1 hr).1
              refine ⟨hi, ?_⟩
              simp only [rows, List.getElem?_map, List.getElem?_range hi, Option.map_some, Option.some.injEq] at hr
              rw [← hr, dif_pos hi]
            refine holds_one (d := .l rows) ⟨⟨_, rfl, fun r hr => ?_, ?_⟩, by simp, .inr ⟨a, cap, ?_, ?_, fun i r hr => ?_⟩⟩ (fun r hr => ?_)
            · obtain ⟨i, hi⟩ := List.getElem?_of_mem hr
              obtain ⟨h, rfl⟩ := hget i r hi
              obtain ⟨_, _, h6, _⟩ := Classical.choose_spec (row i h)
              exact h6.len.1
            · have h3 : cap ≤ 9223372036854775807 := h3
              rw [hlen]; omega
            · show Value.slice (some a) len cap = .slice (some a) rows.length cap
              rw [hlen]
            · show rows.length ≤ cap
              rw [hlen]; exact h2
            · obtain ⟨h, rfl⟩ := hget i r hr
              obtain ⟨cs', h5', h6, _⟩ := Classical.choose_spec (row i h)
              exact ⟨cs', fun c hc => h5' c (by simpa using hc), h6⟩
            · obtain ⟨i, hi⟩ := List.getElem?_of_mem (show r ∈ rows from hr)
              obtain ⟨h, rfl⟩ := hget i r hi
              obtain ⟨_, _, _, h7⟩ := Classical.choose_spec (row i h)
              exact h7
        · cases h
      · cases h
    · rename_i fs hu
      split at h
      · rename_i ks' hd
        split at h
        · rename_i hb
          rw [beqN_iff] at hb
          simp only [Option.some.injEq] at h
          subst h
          obtain ⟨xs, m', rfl, _, hl, hxs, hf⟩ := DataW.trod_struct hu hx
          have := holds_fields (w := w) (cs := cs) fs.toList 0 ks' hd (by rw [hl, hb]; simp) (fun f hm ks1 hk1 => ?_)
          · simpa using this
          · obtain ⟨i, hi, rfl⟩ := List.mem_iff_getElem.1 hm
            have hi' : i < fs.size := by simpa using hi
            have e1 := hf i fs[i] (by simp [hi'])
            rw [List.getElem?_eq_getElem (by omega)] at e1
            have e2 : fs.toList[i] = fs[i] := by simp
            rw [e2] at hk1 ⊢
            exact holds_of_trod n _ ks1 hk1 m' _ _ e1
        · cases h
      · cases h
    · rename_i m0 e hu
      split at h
      · rename_i ks' hd
        split at h
        · rename_i hb
          simp only [Bool.and_eq_true, beqN_iff] at hb
          simp only [Option.some.injEq] at h
          subst h
          cases m with
          | zero => simp [DataW.trod] at hx
          | succ m' =>
            obtain ⟨hl, hi⟩ := HB.trod_array hu hx
            refine holds_rep m0 (by rw [hl, hb.2]) fun i h => ?_
            obtain ⟨y, hy⟩ := hi i h
            rw [hb.1] at hy
            exact holds_of_trod n e ks' hd m' _ y hy
        · cases h
      · cases h
    · cases h


def strOf (z : ByteArray) : List Nat := z.data.toList.map UInt8.toNat

def valOf : Value → Option V
  | .int k n => some (.int k n)
  | .bool b => some (.bool b)
  | .string z => some (.str (strOf z))
  | .slice none 0 0 => some .nils
  | .slice (some a) n cap => if n ≤ cap then some (.rslc a n cap) else none
  | _ => none

noncomputable def roOf (w : World) (a : Addr) : Option V := match w.cell? a with
  | some u => valOf u
  | none => none

theorem valOf_rv {u : Value} {v : V} (h : valOf u = some v) : one1 v = true ∧ ∀ ρ n, Rv ρ n v u := by
  unfold valOf at h
  split at h
  · cases h; exact ⟨rfl, fun _ _ => by simp only [Rv]⟩
  · cases h; exact ⟨rfl, fun _ _ => by simp only [Rv]⟩
  · cases h
    rename_i z
    refine ⟨rfl, fun _ _ => ?_⟩
    simp only [Rv]
    refine ⟨fun b hb => ?_, by rw [strOf, bytes_of]⟩
    obtain ⟨x, _, rfl⟩ := List.mem_map.1 (show b ∈ z.data.toList.map UInt8.toNat from hb)
    exact x.toNat_lt
  · cases h; exact ⟨rfl, fun _ _ => by simp only [Rv]⟩
  · split at h
    · rename_i hle
      cases h
      exact ⟨rfl, fun _ _ => by simp only [Rv]; exact ⟨hle, trivial⟩⟩
    · cases h
  · cases h

theorem roOf_ok (w : World) : RoAt (roOf w) w := by
  intro a v h
  unfold roOf at h
  split at h
  · rename_i u hu
    obtain ⟨h1, h2⟩ := valOf_rv h
    exact ⟨h1, u, hu, fun ρ n => h2 ρ n⟩
  · cases h

theorem str_bytes {s : List Nat} (h : ∀ b ∈ s, b < 256) : strOf (bytesOf s) = s := by
  simp only [strOf, bytesOf, List.map_map]
  induction s with
  | nil => rfl
  | cons b s ih =>
    have hb := h b (.head _)
    simp only [List.map_cons, Function.comp_apply, UInt8.toNat_ofNat', List.cons.injEq]
    exact ⟨Nat.mod_eq_of_lt hb, ih fun x hx => h x (.tail _ hx)⟩

mutual
theorem rdK_fz {g : Nat → Option O} {B : Nat} : ∀ (k : Kd) (d : D) (u : Value), RdK w k d u → RngK k d → ∃ v, valOf u = some v ∧ FzC (roOf w) g B k d v
  | .int k, d, u, h, _ => by
    simp only [RdK] at h
    obtain ⟨⟨n, rfl⟩, rfl⟩ := h
    exact ⟨_, rfl, by simp only [FzC]; exact ⟨⟨_, rfl⟩, trivial⟩⟩
  | .bool, d, u, h, _ => by
    simp only [RdK] at h
    obtain ⟨⟨n, rfl⟩, rfl⟩ := h
    exact ⟨_, rfl, by simp only [FzC]; exact ⟨⟨_, rfl⟩, trivial⟩⟩
  | .str, d, u, h, hr => by
    simp only [RdK] at h
    obtain ⟨⟨n, rfl⟩, rfl⟩ := h
    simp only [RngK, D.str] at hr
    refine ⟨_, rfl, ?_⟩
    simp only [FzC, D.str, str_bytes hr]
    exact ⟨⟨_, rfl⟩, trivial⟩
  | .sl ks, d, u, h, hr => by
    simp only [RdK] at h
    obtain ⟨⟨rows, rfl, hl⟩, hpos, h⟩ := h
    simp only [RngK, D.rows] at hr h
    rcases h with ⟨rfl, rfl⟩ | ⟨a, cap, rfl, hcap, hrow⟩
    · exact ⟨.nils, rfl, by simp only [FzC]; exact ⟨⟨_, rfl, hl⟩, .inl ⟨rfl, trivial⟩⟩⟩
    · refine ⟨.rslc a rows.length cap, by simp only [valOf]; rw [if_pos hcap], ?_⟩
      simp only [FzC, D.rows]
      refine ⟨⟨_, rfl, hl⟩, .inr (.inr ⟨a, cap, rfl, hpos, hcap, fun i hi => ?_⟩)⟩
      obtain ⟨cs, c1, c2⟩ := hrow i rows[i] (List.getElem?_eq_getElem hi)
      have hg := hr rows[i] (List.getElem_mem hi)
      refine FzR.of _ _ _ _ fun j k hk => ?_
      have hj : j < ks.length := (List.getElem?_eq_some_iff.1 hk).1
      obtain ⟨v, e1, e2⟩ := rdL_fz (g := g) (B := B) ks rows[i] cs c2 hg j k hk
      refine ⟨v, ?_, ?_⟩
      · simp only [roOf, Nat.zero_add, c1 j hj]
        revert e1
        cases cs[j]? with
        | none => intro e1; cases e1
        | some u => intro e1; exact e1
      · have : gt rows i (0 + j) = rows[i].getD j .nil := by simp [gt, List.getD_eq_getElem?_getD, hi]
        rw [this]; exact e2
theorem rdL_fz {g : Nat → Option O} {B : Nat} : ∀ (ks : List Kd) (l : List D) (cs : List Value), RdL w ks l cs → RngL ks l → ∀ j k, ks[j]? = some k → ∃ v, (cs[j]?).bind valOf = some v ∧ FzC (roOf w) g B k (l.getD j .nil) v
  | [], _, _, _, _, j, k, hk => by simp at hk
  | k0 :: ks, d :: l, c :: cs, h, hr, 0, k, hk => by
    simp only [RdL] at h
    simp only [RngL] at hr
    simp only [List.getElem?_cons_zero, Option.some.injEq] at hk
    subst hk
    obtain ⟨v, a, b⟩ := rdK_fz (g := g) (B := B) k0 d c h.1 hr.1
    exact ⟨v, by simpa using a, by simpa using b⟩
  | k0 :: ks, d :: l, c :: cs, h, hr, j + 1, k, hk => by
    simp only [RdL] at h
    simp only [RngL] at hr
    obtain ⟨v, a, b⟩ := rdL_fz (g := g) (B := B) ks l cs h.2 hr.2 j k (by simpa using hk)
    exact ⟨v, by simpa using a, by simpa using b⟩
  | _ :: _, [], _, h, _, _, _, _ => by simp [RdL] at h
  | _ :: _, _ :: _, [], h, _, _, _, _ => by simp [RdL] at h
end

theorem rdL_vals {g : Nat → Option O} {B : Nat} {ρ : Nm} {n : Nat} : ∀ (ks : List Kd) (l : List D) (cs : List Value), RdL w ks l cs → RngL ks l →
    ∃ x : List V, x.length = ks.length ∧ (∀ j k, ks[j]? = some k → ∃ u, x[j]? = some u ∧ FzC (roOf w) g B k (l.getD j .nil) u) ∧ RvL ρ n x cs
  | [], [], [], _, _ => ⟨[], rfl, fun j k h => by simp at h, by simp [RvL]⟩
  | k :: ks, d :: l, c :: cs, h, hr => by
    simp only [RdL] at h
    simp only [RngL] at hr
    obtain ⟨v, a, b⟩ := rdK_fz (g := g) (B := B) k d c h.1 hr.1
    obtain ⟨x, e1, e2, e3⟩ := rdL_vals (g := g) (B := B) (ρ := ρ) (n := n) ks l cs h.2 hr.2
    refine ⟨v :: x, by simp [e1], fun j k' hk => ?_, by simp only [RvL]; exact ⟨(valOf_rv a).2 ρ n, e3⟩⟩
    cases j with
    | zero =>
      simp only [List.getElem?_cons_zero, Option.some.injEq] at hk
      subst hk
      exact ⟨v, rfl, by simpa using b⟩
    | succ j => simpa using e2 j k' (by simpa using hk)
  | [], [], _ :: _, h, _ => by simp [RdL] at h
  | [], _ :: _, _, h, _ => by simp [RdL] at h
  | _ :: _, [], _, h, _ => by simp [RdL] at h
  | _ :: _, _ :: _, [], h, _ => by simp [RdL] at h

def descAll (P : Program) (n : Nat) : List TypeId → Option (List (Bool × List Kd))
  | [] => some []
  | t :: r => match desc P n t, descAll P n r with
    | some ks, some l => some ((HB.isAgg P t, ks) :: l)
    | _, _ => none

def RngAll : List (Bool × List Kd) → List (List D) → Prop
  | (_, ks) :: r, d :: ds => RngL ks d ∧ RngAll r ds
  | _, _ => True

def trueRes (_ : List (List D)) (_ _ : Nat) : D := .b true

def ArgsRd (w : World) : List (Bool × List Kd) → List (List D) → List Value → Prop
  | [], [], [] => True
  | (g, ks) :: r, d :: ds, v :: vs => (RdL w ks d v.cells.toList ∧ (g = true → v = .agg (v.cells.toList).toArray) ∧ (g = false → v.cells.toList = [v])) ∧ ArgsRd w r ds vs
  | _, _, _ => False

theorem args_fz {g : Nat → Option O} {B : Nat} {ρ : Nm} {n : Nat} : ∀ (ps : List (Bool × List Kd)) (ds : List (List D)) (vs : List Value), ArgsRd w ps ds vs → RngAll ps ds → ∃ x : List V, ArgsFz (roOf w) g B ps ds x ∧ RvL ρ n x vs
  | [], [], [], _, _ => ⟨[], trivial, by simp [RvL]⟩
  | (a, ks) :: ps, d :: ds, v :: vs, h, hr => by
    obtain ⟨⟨h1, h2, h3⟩, h4⟩ := h
    obtain ⟨x, e1, e2, e3⟩ := rdL_vals (g := g) (B := B) (ρ := ρ) (n := n) ks d _ h1 hr.1
    obtain ⟨xs, f1, f2⟩ := args_fz (g := g) (B := B) (ρ := ρ) (n := n) ps ds vs h4 hr.2
    cases a with
    | true => exact ⟨.agg x :: xs, ⟨h1.len.1, ⟨x, e1, e2, rfl⟩, f1⟩, by simp only [RvL, Rv]; exact ⟨⟨_, e3, h2 rfl⟩, f2⟩⟩
    | false =>
      rw [h3 rfl] at e3
      match x, e3 with
      | [y], e3 =>
        simp only [RvL, and_true] at e3
        exact ⟨y :: xs, ⟨h1.len.1, ⟨[y], e1, e2, y, rfl, rfl⟩, f1⟩, by simp only [RvL]; exact ⟨e3, f2⟩⟩
      | [], e3 => simp [RvL] at e3
      | _ :: _ :: _, e3 => simp [RvL] at e3
  | [], [], _ :: _, h, _ => h.elim
  | [], _ :: _, _, h, _ => h.elim
  | _ :: _, [], _, h, _ => h.elim
  | _ :: _, _ :: _, [], h, _ => h.elim

theorem shape_of {r : Reach} {n : Nat} {t : TypeId} {ks : List Kd} {v : Value} (hd : desc P n t = some ks) (h : Value.okWide P w r base t v) :
    (HB.isAgg P t = true → v = .agg (v.cells.toList).toArray) ∧ (HB.isAgg P t = false → v.cells.toList = [v]) := by
  cases n with
  | zero => simp [desc] at hd
  | succ n =>
    unfold desc at hd
    unfold HB.isAgg
    split at hd
    · rename_i hu
      obtain ⟨b, rfl⟩ := okWide_bool hu h
      rw [hu]
      exact ⟨fun h => (by cases h), fun _ => rfl⟩
    · rename_i k hu
      obtain ⟨z, rfl⟩ := okWide_int hu h
      rw [hu]
      exact ⟨fun h => (by cases h), fun _ => rfl⟩
    · rename_i hu
      obtain ⟨z, rfl⟩ := okWide_string hu h
      rw [hu]
      exact ⟨fun h => (by cases h), fun _ => rfl⟩
    · rename_i e hu
      obtain ⟨a, l, c, rfl⟩ := okWide_slice hu h
      rw [hu]
      exact ⟨fun h => (by cases h), fun _ => rfl⟩
    · rename_i fs hu
      obtain ⟨cs, rfl, _⟩ := okWide_struct hu h
      rw [hu]
      exact ⟨fun _ => by simp [Value.cells], fun h => by cases h⟩
    · rename_i m e hu
      have : ∃ cs, v = .agg cs := by
        unfold Value.okWide at h
        rw [hu] at h
        obtain ⟨cs, hc, _⟩ := h
        exact ⟨cs, hc⟩
      obtain ⟨cs, rfl⟩ := this
      rw [hu]
      exact ⟨fun _ => by simp [Value.cells], fun h => by cases h⟩
    · cases hd

theorem args_read {r : Reach} {n : Nat} : ∀ (ts : List TypeId) (params : List (Bool × List Kd)) (vs : List Value) (ds : List (DataW H)) (ps : List MemPlace), descAll P n ts = some params →
    (∀ (j : Nat) t v, ts[j]? = some t → vs[j]? = some v → Value.okWide P w r base t v) → DataW.TrodAll enc P w 0 spare held ts vs ds ps →
    ∃ dss, ArgsRd w params dss vs ∧ RngAll params dss
  | [], params, vs, ds, ps, hd, _, h => by
    simp only [descAll, Option.some.injEq] at hd
    subst hd
    obtain ⟨rfl, _, _⟩ := trodAll_nil h
    exact ⟨[], trivial, trivial⟩
  | t :: ts, params, vs, ds, ps, hd, hok, h => by
    unfold descAll at hd
    split at hd
    · rename_i ks l hks hl
      simp only [Option.some.injEq] at hd
      subst hd
      cases vs with
      | nil => simp [DataW.TrodAll] at h
      | cons v vs =>
        cases ds with
        | nil => simp [DataW.TrodAll] at h
        | cons d ds =>
          obtain ⟨p, q, ⟨m, hm⟩, h2, _⟩ := h
          obtain ⟨f, g1, g2⟩ := holds_of_trod n t ks hks m _ _ hm
          obtain ⟨dss, i1, i2⟩ := args_read ts l vs ds q hl (fun j t' v' ht hv => hok (j + 1) t' v' (by simpa using ht) (by simpa using hv)) h2
          obtain ⟨s1, s2⟩ := shape_of hks (hok 0 t v (by simp) (by simp))
          exact ⟨f :: dss, ⟨⟨g1, s1, s2⟩, i1⟩, g2, i2⟩
    · cases hd
end

section
variable {H : Type} {enc : TypeId × Value → H} {P : Program}

theorem said {fnum : FuncId} {f : Func} {s : ChangeSpec} {fresh handsOn again : Bool} {n : Nat} {params : List (Bool × List Kd)} {tb : TypeId}
    (hE : ∀ ro, CX.EnvOk (cxE ro) P) (hpure : ∀ ro, PureC0 (cxE ro) fnum ⟨params, [(false, [.bool])], false⟩ (RngAll params) trueRes) (hd : descAll P n f.params.toList = some params) (hl : laidOutB P = true)
    (hr : (f.params.toList.all fun t => P.readableRec t && decide (t < P.types.size)) = true) (hres : f.resultTypes = #[tb]) (hb : P.underlying tb = some .bool)
    (hs : ∀ ds : List (DataW H), ds.length = f.params.toList.length → s.fn H ds = ⟨[.lit (.bool true)], ds, []⟩) (hv : s.vars = []) {apart : Bool} (W : World) (base : Nat) (args : Array Value) (ds gs : List (DataW H)) (before : List MemPlace)
    (hval : ∀ (j : Nat) t v, f.params[j]? = some t → args[j]? = some v → Value.okWide P W .any base t v) (hW : DataW.Whole enc P f.params.toList s.vars apart W args.toList ds gs before) :
    Calls P fnum args W fun e W' => ∃ v, e = .returned v ∧ s.post enc P f apart fresh handsOn again W args v W' := by
  have hW' := hW
  obtain ⟨p, q, hA, hV, rfl, _, _⟩ := hW
  rw [hv] at hV
  obtain ⟨rfl, rfl⟩ := trodVars_none hV
  obtain ⟨dss, h1, h2⟩ := args_read (r := .any) (base := base) f.params.toList params args.toList ds p hd (fun j t v ht hv => hval j t v (by simpa using ht) (by simpa using hv)) hA
  have hlen := (trodAll_length hA).2
  have hfn : s.fn H (ds ++ []) = ⟨[.lit (.bool true)], ds, []⟩ := by rw [List.append_nil]; exact hs ds hlen
  obtain ⟨xs, x1, x2⟩ := args_fz (g := fun _ => none) (B := 0) (ρ := fun _ => none) (n := 0) params dss args.toList h1 h2
  obtain ⟨vs, h', nx', g', ⟨n0, hrun⟩, hresF⟩ := hpure (roOf W) dss h2 xs x1
  have hvs : vs = [.bool true] := by
    match vs, hresF with
    | [v], hresF =>
      obtain ⟨⟨x, _, e2, u, rfl, rfl⟩, _⟩ := hresF
      obtain ⟨u, e3, e4⟩ := e2 0 .bool rfl
      simp only [List.getElem?_cons_zero, Option.some.injEq] at e3
      subst e3
      simp only [FzC] at e4
      rw [e4.2]; rfl
    | [], hresF => simp [ResFz] at hresF
    | _ :: _ :: _, hresF => simp [ResFz] at hresF
  subst hvs
  have hcall := call_ro (hE (roOf W)) (w := W) (roOf_ok W) x2 (hrun n0 (Nat.le_refl _) retV)
  rw [show args.toList.toArray = args by simp] at hcall
  refine hcall.mono fun e W' h => ?_
  obtain ⟨u, ρ, m, rfl, hu, hk⟩ := h
  simp only [CX.one, Rv] at hu
  subst hu
  have hlt := hW'.lt
  simp only [List.append_nil] at hW' hlt
  refine ⟨_, rfl, CX.post_kept (pa := p) (pv := []) hW' (fun b sp hd => ?_) (fun sp hsp => ?_) (fun sp _ => ?_) (by simp) hk (ok_one hres rfl (okWide_bool_mk hb _))⟩
  · rw [hfn, hres]
    exact trodAll_mk1 (shut_bool hb _)
  · rw [hfn]
    exact HB.args_stay hl hr hA (fun x hx => HB.Kept_same hk (hlt x hx)) (fun x hx => hsp x hx)
  · rw [hfn, hv]
    rfl
end
end HX

namespace HX
open Go Go.Proofs
theorem own : ownKnob Tryz.prog.godebug = none := by kernel_rfl
theorem laid : laidOutB Tryz.prog = true := by kernel_rfl
end HX

namespace HX
open Go Go.Proofs CX

inductive Ctrs (E : CX.Env) : List Ctr → Prop
  | nil : Ctrs E []
  | cons {c : Ctr} {l : List Ctr} (h : PureC E c.f c.sg c.pre c.res) (r : Ctrs E l) : Ctrs E (c :: l)

theorem Ctrs.find {E : CX.Env} : ∀ {l : List Ctr}, Ctrs E l → ∀ {f : Nat} {sg : Sig}, sigL (sigs l) f = some sg → PureC E f sg (preOf l f) (resOf l f)
  | [], _, f, sg, h => by simp [sigL, sigs, look] at h
  | c :: l, .cons h1 h2, f, sg, h => by
    simp only [sigL, sigs, List.map_cons] at h
    rw [look_cons] at h
    split at h
    · rename_i e
      simp only [Option.some.injEq] at h
      subst e h
      have e1 : preOf (c :: l) c.f = c.pre := by funext ds; simp [preOf, ctrOf]
      have e2 : resOf (c :: l) c.f = c.res := by funext ds; simp [resOf, ctrOf]
      rw [e1, e2]; exact h1
    · rename_i e
      have e1 : preOf (c :: l) f = preOf l f := by funext ds; simp [preOf, ctrOf, e]
      have e2 : resOf (c :: l) f = resOf l f := by funext ds; simp [resOf, ctrOf, e]
      rw [e1, e2]
      exact h2.find h

theorem envL {ro : Addr → Option V} {l : List Ctr} (h : Ctrs (cxE ro) l) : EnvOk ⟨Ar.std, cxE ro, ksF, sigL (sigs l), preOf l, resOf l⟩ := hxEnv fun _ _ hs => h.find hs
end HX

namespace HX
open Go Go.Proofs CX

def wI (r : List D) : Int := (r.getD 0 .nil).int
theorem gt_wI (l : Rows) (q : Nat) : (gt l q 0).int = wI (l.getD q []) := rfl
theorem row_mem {l : Rows} {q : Nat} (h : q < l.length) : l.getD q [] ∈ l := by
  rw [List.getD_eq_getElem?_getD, List.getElem?_eq_getElem h]; exact List.getElem_mem h
theorem mem_row {l : Rows} {r : List D} (h : r ∈ l) : ∃ q, q < l.length ∧ l.getD q [] = r := by
  obtain ⟨q, hq, e⟩ := List.getElem_of_mem h
  exact ⟨q, hq, by rw [List.getD_eq_getElem?_getD, List.getElem?_eq_getElem hq]; exact e⟩
def rI (r : List D) : Int := (r.getD 1 .nil).int
theorem gt_rI (l : Rows) (q : Nat) : (gt l q 1).int = rI (l.getD q []) := rfl

def crE (b r : Int) : Int := if (0 ≤ b ∧ b ≤ 65536) ∧ 0 ≤ r ∧ r ≤ 1024 then 0 else 3
theorem crE_0 {b r : Int} : crE b r = 0 ↔ (0 ≤ b ∧ b ≤ 65536) ∧ 0 ≤ r ∧ r ≤ 1024 := by
  unfold crE
  split
  · exact ⟨fun _ => by assumption, fun _ => rfl⟩
  · exact ⟨fun h => (by cases h), fun h => (by contradiction)⟩
theorem crE_ne {b r : Int} (h : ¬ crE b r = 0) : crE b r = 3 := by
  unfold crE at h ⊢
  split at h
  · exact absurd rfl h
  · rw [if_neg (by assumption)]
def okC (l : Rows) : Prop := ∀ x ∈ l, crE (wI x) (rI x) = 0
open Classical in
noncomputable def allE (l : Rows) : Int := if okC l then 0 else 3
theorem allE_0 {l : Rows} : allE l = 0 ↔ okC l := by
  unfold allE
  split
  · exact ⟨fun _ => by assumption, fun _ => rfl⟩
  · exact ⟨fun h => (by cases h), fun h => (by contradiction)⟩
theorem allE_ne {l : Rows} (h : ¬ allE l = 0) : allE l = 3 := by
  unfold allE at h ⊢
  split at h
  · exact absurd rfl h
  · rw [if_neg (by assumption)]
theorem okC_row {l : Rows} (h : okC l) {q : Nat} (hq : q < l.length) : (0 ≤ wI (l.getD q []) ∧ wI (l.getD q []) ≤ 65536) ∧ 0 ≤ rI (l.getD q []) ∧ rI (l.getD q []) ≤ 1024 := crE_0.1 (h _ (row_mem hq))
end HX

namespace HX
open Go Go.Proofs CX

abbrev tI (l : Rows) (q : Nat) : Int := wI (l.getD q [])
theorem gt_tI (l : Rows) (q : Nat) : (gt l q 0).int = tI l q := rfl
theorem mulN {r w N : Int} (h1 : 0 ≤ r) (h2 : r ≤ 1024) (h3 : 0 ≤ w) (h4 : w ≤ N) : 0 ≤ r * w ∧ r * w ≤ 1024 * N :=
  ⟨Int.mul_nonneg h1 h3, Int.le_trans (Int.mul_le_mul_of_nonneg_right h2 h3) (Int.mul_le_mul_of_nonneg_left h4 (by omega))⟩
def inT (l : Rows) : Prop := ∀ j < l.length, 0 ≤ tI l j ∧ tI l j ≤ 10000
def srt (l : Rows) : Prop := ∀ j, j + 1 < l.length → tI l j ≤ tI l (j + 1)
open Classical in
noncomputable def tmE (l : Rows) : Int := if 1024 < (l.length : Int) then 9 else if ¬ inT l then 3 else if ¬ srt l then 2 else 0
theorem tmE_0 {l : Rows} (h : tmE l = 0) : (l.length : Int) ≤ 1024 ∧ inT l ∧ srt l := by
  unfold tmE at h
  split at h
  · cases h
  split at h
  · cases h
  split at h
  · cases h
  · rename_i h1 h2 h3
    exact ⟨by omega, Classical.not_not.1 h2, Classical.not_not.1 h3⟩

def ndE (l : Rows) (i k r : Int) : Int := 1024 * ((k - i) + 1) - r * ((tI l k.toNat - tI l i.toNat) + 1)
def lst (l : Rows) : Nat → Int
  | 0 => 0
  | q + 1 => tI l q
def lev (l : Rows) (r : Int) : Nat → Int
  | 0 => 0
  | q + 1 => mxI 0 (lev l r q - r * (tI l q - lst l q)) + 1024
def mst (l : Rows) (r : Int) : Nat → Int
  | 0 => 0
  | q + 1 => mxI (mst l r q) (mxI 0 (lev l r (q + 1) - r))

theorem lst_le {l : Rows} (hi : inT l) (hs : srt l) {q : Nat} (h : q < l.length) : 0 ≤ lst l q ∧ lst l q ≤ tI l q := by
  cases q with
  | zero => exact ⟨Int.le_refl 0, (hi 0 h).1⟩
  | succ q => exact ⟨(hi q (by omega)).1, hs q h⟩

theorem lev_bd {l : Rows} {r : Int} (h0 : 0 ≤ r) (h1 : r ≤ 1024) (hi : inT l) (hs : srt l) : ∀ q, q ≤ l.length → 0 ≤ lev l r q ∧ lev l r q ≤ 1024 * q
  | 0, _ => ⟨Int.le_refl 0, Int.le_refl 0⟩
  | q + 1, h => by
    have ih := lev_bd h0 h1 hi hs q (by omega)
    have hl := lst_le hi hs (q := q) (by omega)
    have hm := mulN h0 h1 (w := tI l q - lst l q) (N := 10000) (by omega) (by have := hi q (by omega); omega)
    simp only [lev, mxI_eq]
    omega

theorem lev_up {l : Rows} {r : Int} (h0 : 0 ≤ r) : ∀ q i : Nat, i < q → 1024 * ((q : Int) - i) - r * (lst l q - tI l i) ≤ lev l r q
  | 0, i, h => by omega
  | q + 1, i, h => by
    rw [show lev l r (q + 1) = mxI 0 (lev l r q - r * (tI l q - lst l q)) + 1024 from rfl, show lst l (q + 1) = tI l q from rfl, mxI_eq]
    by_cases e : i = q
    · subst e
      rw [Int.sub_self, Int.mul_zero]
      omega
    · have ih := lev_up h0 (l := l) q i (by omega)
      simp only [Int.mul_sub] at ih ⊢
      omega

theorem lev_at {l : Rows} {r : Int} (h0 : 0 ≤ r) (h1 : r ≤ 1024) (hi : inT l) (hs : srt l) : ∀ q : Nat, q ≤ l.length → 0 < q → ∃ i : Nat, i < q ∧ lev l r q = 1024 * ((q : Int) - i) - r * (lst l q - tI l i)
  | 0, _, h => by omega
  | q + 1, h, _ => by
    have hl := lst_le hi hs (q := q) (by omega)
    have hm := mulN h0 h1 (w := tI l q - lst l q) (N := 10000) (by omega) (by have := hi q (by omega); omega)
    by_cases hp : 0 < lev l r q - r * (tI l q - lst l q)
    · cases q with
      | zero => simp only [lev] at hp; omega
      | succ p =>
        obtain ⟨i, hi1, hi2⟩ := lev_at h0 h1 hi hs (p + 1) (by omega) (by omega)
        refine ⟨i, by omega, ?_⟩
        rw [lev, mxI_eq]
        simp only [lst] at hi2 hp ⊢
        simp only [Int.mul_sub] at hi2 hp ⊢
        omega
    · refine ⟨q, by omega, ?_⟩
      rw [lev, mxI_eq, show lst l (q + 1) = tI l q from rfl, Int.sub_self, Int.mul_zero]
      omega

theorem ndE_nat (l : Rows) (i k : Nat) (r : Int) : ndE l i k r = 1024 * (((k : Int) - i) + 1) - r * ((tI l k - tI l i) + 1) := rfl

theorem mst_up {l : Rows} {r : Int} (h0 : 0 ≤ r) : ∀ n i k : Nat, i ≤ k → k < n → ndE l i k r ≤ mst l r n
  | 0, i, k, _, h => by omega
  | n + 1, i, k, h1, h2 => by
    rw [show mst l r (n + 1) = mxI (mst l r n) (mxI 0 (lev l r (n + 1) - r)) from rfl]
    simp only [mxI_eq]
    by_cases e : k = n
    · subst e
      have := lev_up h0 (l := l) (k + 1) i (by omega)
      rw [ndE_nat]
      simp only [lst] at this
      simp only [Int.mul_sub, Int.mul_add, Int.mul_one] at this ⊢
      omega
    · have := mst_up h0 (l := l) n i k h1 (by omega)
      omega
theorem mst_at {l : Rows} {r : Int} (h0 : 0 ≤ r) (h1 : r ≤ 1024) (hi : inT l) (hs : srt l) : ∀ n, n ≤ l.length → 0 ≤ mst l r n ∧ (mst l r n = 0 ∨ ∃ i k : Nat, i ≤ k ∧ k < n ∧ mst l r n = ndE l i k r)
  | 0, _ => ⟨Int.le_refl 0, .inl rfl⟩
  | n + 1, h => by
    obtain ⟨hz, ih⟩ := mst_at h0 h1 hi hs n (by omega)
    have hup := mst_up h0 (l := l) (n + 1)
    have hge : mst l r n ≤ mst l r (n + 1) ∧ 0 ≤ mst l r (n + 1) := by rw [mst]; simp only [mxI_eq]; omega
    refine ⟨hge.2, ?_⟩
    by_cases e : mst l r (n + 1) = mst l r n
    · rw [e]
      rcases ih with ih | ⟨i, k, a, b, c⟩
      · exact .inl ih
      · exact .inr ⟨i, k, a, by omega, c⟩
    · right
      obtain ⟨i, hi1, hi2⟩ := lev_at h0 h1 hi hs (n + 1) h (by omega)
      refine ⟨i, n, by omega, by omega, ?_⟩
      have hu := hup i n (by omega) (by omega)
      rw [show mst l r (n + 1) = mxI (mst l r n) (mxI 0 (lev l r (n + 1) - r)) from rfl] at e hu ⊢
      rw [ndE_nat] at hu ⊢
      simp only [mxI_eq] at e hu ⊢
      simp only [lst] at hi2
      simp only [Int.mul_sub, Int.mul_add, Int.mul_one] at e hu hi2 ⊢
      omega

def Win (l : Rows) (r : Int) (q p : Nat) (b : Int) : Prop :=
  (0 ≤ b ∧ b ≤ 2000000000) ∧ (b = 0 ∨ ∃ i k : Nat, i ≤ k ∧ k < l.length ∧ b = ndE l i k r) ∧ ∀ i k : Nat, i ≤ k → k < l.length → (i < q ∨ (i = q ∧ k < p)) → ndE l i k r ≤ b
theorem win_0 {l : Rows} {r : Int} : Win l r 0 0 0 := ⟨by omega, .inl rfl, fun i k _ _ h => by omega⟩
theorem win_in {l : Rows} {r b : Int} {q : Nat} (h : Win l r q 0 b) : Win l r q q b := ⟨h.1, h.2.1, fun i k h1 h2 h3 => h.2.2 i k h1 h2 (by omega)⟩
theorem win_out {l : Rows} {r b : Int} {q : Nat} (h : Win l r q l.length b) : Win l r (q + 1) 0 b := ⟨h.1, h.2.1, fun i k h1 h2 h3 => h.2.2 i k h1 h2 (by omega)⟩
theorem ndE_bd {l : Rows} {r : Int} (h0 : 0 ≤ r) (h1 : r ≤ 1024) (hi : inT l) (hl : (l.length : Int) ≤ 1024) {i k : Nat} (h : i ≤ k) (hk : k < l.length) : -20000000 ≤ ndE l i k r ∧ ndE l i k r ≤ 20000000 := by
  have a := hi i (by omega)
  have b := hi k hk
  have m1 := mulN h0 h1 (w := tI l k) (N := 10000) (by omega) (by omega)
  have m2 := mulN h0 h1 (w := tI l i) (N := 10000) (by omega) (by omega)
  rw [ndE_nat]
  simp only [Int.mul_sub, Int.mul_add, Int.mul_one]
  omega
theorem win_step {l : Rows} {r b : Int} (h0 : 0 ≤ r) (h1 : r ≤ 1024) (hi : inT l) (hl : (l.length : Int) ≤ 1024) {q p : Nat} (hq : q ≤ p) (hp : p < l.length) (h : Win l r q p b) : Win l r q (p + 1) (mxI b (ndE l q p r)) := by
  have hb := ndE_bd h0 h1 hi hl hq hp
  have h' := h.1
  rw [mxI_eq]
  refine ⟨by omega, ?_, fun i k a b c => ?_⟩
  · by_cases e : b ≤ ndE l q p r
    · exact .inr ⟨q, p, hq, hp, by omega⟩
    · rw [show max b (ndE l q p r) = b by omega]; exact h.2.1
  · by_cases e : i = q ∧ k = p
    · rw [e.1, e.2]; omega
    · have := h.2.2 i k a b (by omega); omega
theorem win_end {l : Rows} {r b : Int} (h0 : 0 ≤ r) (h1 : r ≤ 1024) (hi : inT l) (hs : srt l) (h : Win l r l.length 0 b) : b = mst l r l.length := by
  obtain ⟨hz, ha⟩ := mst_at h0 h1 hi hs l.length (Nat.le_refl _)
  have hb := h.1
  have u1 : b ≤ mst l r l.length := by
    rcases h.2.1 with e | ⟨i, k, a, b, c⟩
    · omega
    · rw [c]; exact mst_up h0 _ i k a b
  have u2 : mst l r l.length ≤ b := by
    rcases ha with e | ⟨i, k, a, b, c⟩
    · omega
    · rw [c]; exact h.2.2 i k a b (by omega)
  omega
end HX

namespace HX
open Go Go.Proofs CX

abbrev lfE (r lv t la : Int) : Int := mxI 0 (lv - r * (t - la))
abbrev ovE (B r lf : Int) : Int := ((lf + 1024) - r) - B
abbrev wtE (r ov : Int) : Int := Int.tdiv ((ov + r) - 1) r
def stp (B r : Int) (out : Rows) (lv t la : Int) : Option (Rows × Int × Int) :=
  if 0 < ovE B r (lfE r lv t la) then
    if r = 0 ∨ B + r < 1024 then none
    else some (out ++ [[.i (t + wtE r (ovE B r (lfE r lv t la)))]], mxI 0 (lfE r lv t la - r * wtE r (ovE B r (lfE r lv t la))) + 1024, t + wtE r (ovE B r (lfE r lv t la)))
  else some (out ++ [[.i t]], lfE r lv t la + 1024, t)
def shp (l : Rows) (B r : Int) : Nat → Option (Rows × Int × Int)
  | 0 => some ([], 0, 0)
  | q + 1 => match shp l B r q with
    | none => none
    | some (out, lv, la) => stp B r out lv (mxI (tI l q) la) la
theorem shp_none {l : Rows} {B r : Int} {q : Nat} (h : shp l B r q = none) : ∀ n, q ≤ n → shp l B r n = none
  | 0, hn => by rw [← (show q = 0 by omega)]; exact h
  | n + 1, hn => by
    by_cases e : q = n + 1
    · rw [← e]; exact h
    · rw [shp, shp_none h n (by omega)]

theorem wt_ok {ov r : Int} (hr : 0 < r) (ho : 0 < ov) : (0 ≤ wtE r ov ∧ wtE r ov ≤ ov + r - 1) ∧ ov ≤ r * wtE r ov ∧ r * wtE r ov ≤ ov + r - 1 := by
  have e : wtE r ov = (ov + r - 1) / r := Int.tdiv_eq_ediv_of_nonneg (by omega)
  rw [e]
  have h1 := Int.mul_ediv_self_le (x := ov + r - 1) (k := r) (by omega)
  have h2 := Int.lt_mul_ediv_self_add (x := ov + r - 1) (k := r) hr
  have h3 : 0 ≤ (ov + r - 1) / r := Int.ediv_nonneg (by omega) (by omega)
  have h4 : (ov + r - 1) / r ≤ ov + r - 1 := Int.ediv_le_self _ (by omega)
  omega

theorem tI_old {out : Rows} {x : List D} {i : Nat} (h : i < out.length) : tI (out ++ [x]) i = tI out i := by
  show wI _ = wI _
  rw [List.getD_eq_getElem?_getD, List.getElem?_append_left h, List.getD_eq_getElem?_getD]
theorem tI_new {out : Rows} {T : Int} : tI (out ++ [[.i T]]) out.length = T := by
  show wI _ = T
  rw [List.getD_eq_getElem?_getD, List.getElem?_append_right (Nat.le_refl _), Nat.sub_self]
  rfl

structure Shp (r : Int) (q : Nat) (out : Rows) (lv la : Int) : Prop where
  len : out.length = q
  lv0 : 0 ≤ lv
  lv1 : lv ≤ 67584
  la0 : 0 ≤ la
  la1 : la ≤ 10000 + 70000 * q
  z : q = 0 → lv = 0 ∧ la = 0
  la_ : ∀ p, q = p + 1 → la = tI out p
  rng : ∀ i, i < q → 0 ≤ tI out i ∧ tI out i ≤ la
  up : ∀ i, i < q → 1024 * ((q : Int) - i) - r * (la - tI out i) ≤ lv
  at_ : 0 < lv → ∃ i, i < q ∧ lv = 1024 * ((q : Int) - i) - r * (la - tI out i)

theorem Shp.push {r : Int} (hr : 0 ≤ r) {q : Nat} {out : Rows} {lv la : Int} (h : Shp r q out lv la) {T lv' : Int} (h1 : la ≤ T) (h2 : T ≤ 10000 + 70000 * ((q : Int) + 1)) (h3 : lv' = max 0 (lv - r * (T - la)) + 1024) (h4 : lv' ≤ 67584) :
    Shp r (q + 1) (out ++ [[.i T]]) lv' T := by
  have hn := Int.mul_nonneg hr (show 0 ≤ T - la by omega)
  have hlen := h.len
  have old : ∀ i, i < q → tI (out ++ [[.i T]]) i = tI out i := fun i hi => tI_old (by omega)
  have new : tI (out ++ [[.i T]]) q = T := by rw [← hlen]; exact tI_new
  have := h.la0
  refine ⟨by simp [hlen], by omega, h4, by omega, by omega, fun e => by omega, fun p hp => ?_, fun i hi => ?_, fun i hi => ?_, fun _ => ?_⟩
  · rw [show p = q by omega, new]
  · by_cases e : i = q
    · rw [e, new]; omega
    · rw [old i (by omega)]; have := h.rng i (by omega); omega
  · by_cases e : i = q
    · rw [e, new, Int.sub_self, Int.mul_zero]; omega
    · rw [old i (by omega)]
      have := h.up i (by omega)
      simp only [Int.mul_sub] at this h3 ⊢
      omega
  · by_cases e : 0 < lv - r * (T - la)
    · obtain ⟨i, hi, hv⟩ := h.at_ (by omega)
      refine ⟨i, by omega, ?_⟩
      rw [old i hi]
      simp only [Int.mul_sub] at hv h3 e ⊢
      omega
    · refine ⟨q, by omega, ?_⟩
      rw [new, Int.sub_self, Int.mul_zero]
      omega

theorem shp_inv {l : Rows} {B r : Int} (hB : crE B r = 0) (hi : inT l) : ∀ q, q ≤ l.length → ∀ {out lv la}, shp l B r q = some (out, lv, la) → Shp r q out lv la
  | 0, _, out, lv, la, h => by
    simp only [shp, Option.some.injEq, Prod.mk.injEq] at h
    obtain ⟨rfl, rfl, rfl⟩ := h
    exact ⟨rfl, by omega, by omega, by omega, by omega, fun _ => ⟨rfl, rfl⟩, fun p hp => by omega, fun i hi => by omega, fun i hi => by omega, fun h => by omega⟩
  | q + 1, hq, out, lv, la, h => by
    have hc := crE_0.1 hB
    simp only [shp] at h
    split at h
    · cases h
    · rename_i o v a he
      have ih := shp_inv hB hi q (by omega) he
      have hl := hi q (by omega)
      have h0 := ih.la0
      have h1 := ih.la1
      have h2 := ih.lv1
      have ht : a ≤ mxI (tI l q) a ∧ mxI (tI l q) a ≤ 10000 + 70000 * q := by rw [mxI_eq]; omega
      have hm := Int.mul_nonneg hc.2.1 (show 0 ≤ mxI (tI l q) a - a by omega)
      simp only [stp] at h
      split at h
      · rename_i ho
        split at h
        · cases h
        · rename_i hn
          have hw := wt_ok (r := r) (by omega) ho
          simp only [Option.some.injEq, Prod.mk.injEq] at h
          obtain ⟨rfl, rfl, rfl⟩ := h
          have hv : ovE B r (lfE r v (mxI (tI l q) a) a) ≤ 68608 := by simp only [ovE, lfE, mxI_eq] at hm ⊢; omega
          refine ih.push hc.2.1 (by omega) (by omega) ?_ ?_
          · generalize wtE r (ovE B r (lfE r v (mxI (tI l q) a) a)) = w at hw ⊢
            have := hw.2.1
            simp only [Int.mul_sub, Int.mul_add, ovE, lfE, mxI_eq] at hw hm ho this ⊢
            omega
          · generalize wtE r (ovE B r (lfE r v (mxI (tI l q) a) a)) = w at hw ⊢
            have := hw.2.1
            simp only [Int.mul_sub, ovE, lfE, mxI_eq] at hm ho this ⊢
            omega
      · rename_i ho
        simp only [Option.some.injEq, Prod.mk.injEq] at h
        obtain ⟨rfl, rfl, rfl⟩ := h
        refine ih.push hc.2.1 (by omega) (by omega) (by simp only [ovE, lfE, mxI_eq]) ?_
        simp only [ovE, lfE, mxI_eq] at ho ⊢
        omega

structure Inn (l : Rows) (B r : Int) (q : Nat) (out : Rows) (p : Nat) (arr : Rows) (T lv la : Int) : Prop where
  sh : shp l B r q = some (out, lv, la)
  eq : arr = out ++ [[.i T]]
  t0 : mxI (tI l q) la ≤ T
  t1 : T ≤ mxI (tI l q) la + 70000
  ok : ∀ i, i < p → i < q → 1024 * ((q : Int) - i + 1) - r * (T - tI out i) ≤ B + r
  own : q < p → 1024 ≤ B + r
  min : T = mxI (tI l q) la ∨ ∃ i, i < q ∧ B + r < 1024 * ((q : Int) - i + 1) - r * (T - 1 - tI out i)

theorem inn_init {l : Rows} {B r : Int} {q : Nat} {out : Rows} {lv la : Int} (h : shp l B r q = some (out, lv, la)) : Inn l B r q out 0 (out ++ [[.i (mxI (tI l q) la)]]) (mxI (tI l q) la) lv la :=
  ⟨h, rfl, Int.le_refl _, by omega, fun i h => by omega, fun h => by omega, .inl rfl⟩

section
variable {l : Rows} {B r : Int} (hB : crE B r = 0) (hi : inT l) {q : Nat} (hq : q < l.length) {out arr : Rows} {p : Nat} {T lv la : Int} (h : Inn l B r q out p arr T lv la)
include hB hi hq h

theorem Inn.nd (hp : p < q) : ndE arr p q r = 1024 * ((q : Int) - p + 1) - r * (T - tI out p + 1) := by
  have iv := shp_inv hB hi q (by omega) h.sh
  have hl := iv.len
  rw [ndE_nat, h.eq, tI_old (i := p) (by omega), show tI (out ++ [[.i T]]) q = T by rw [← hl]; exact tI_new]
theorem Inn.nd' : ndE arr q q r = 1024 - r := by
  rw [ndE_nat, Int.sub_self, Int.sub_self, Int.zero_add, Int.mul_one, Int.mul_one]

theorem Inn.err (hp : p ≤ q) (ho : 0 < ndE arr p q r - B) (hr : r = 0 ∨ p = q) : shp l B r (q + 1) = none := by
  have hc := crE_0.1 hB
  have iv := shp_inv hB hi q (by omega) h.sh
  have hm := Int.mul_nonneg hc.2.1 (show 0 ≤ mxI (tI l q) la - la by rw [mxI_eq]; omega)
  simp only [shp, h.sh, stp]
  by_cases e : p = q
  · subst e
    rw [h.nd' hB hi hq] at ho
    rw [if_pos (by simp only [ovE, lfE, mxI_eq]; omega), if_pos (by omega)]
  · have hr : r = 0 := by omega
    rw [h.nd hB hi hq (by omega)] at ho
    have hu := iv.up p (by omega)
    subst hr
    simp only [Int.zero_mul] at ho hu ⊢
    rw [if_pos (by simp only [ovE, lfE, mxI_eq]; omega), if_pos (Or.inl trivial)]

theorem Inn.skip (hp : p ≤ q) (ho : ¬ 0 < ndE arr p q r - B) : Inn l B r q out (p + 1) arr T lv la := by
  refine ⟨h.sh, h.eq, h.t0, h.t1, fun i h1 h2 => ?_, fun hh => ?_, h.min⟩
  · by_cases e : i = p
    · subst e
      rw [h.nd hB hi hq h2] at ho
      simp only [Int.mul_sub, Int.mul_add, Int.mul_one] at ho ⊢
      omega
    · exact h.ok i (by omega) h2
  · have e : p = q := by omega
    subst e
    rw [h.nd' hB hi hq] at ho
    omega

theorem Inn.big (hp : p < q) (ho : 0 < ndE arr p q r - B) (hr : ¬ r = 0) {w : Int} (hw : w = wtE r (ndE arr p q r - B)) : T + w ≤ mxI (tI l q) la + 70000 ∧ 0 ≤ w ∧ r * w ≤ ndE arr p q r - B + r - 1 ∧ ndE arr p q r - B ≤ r * w := by
  have hc := crE_0.1 hB
  have iv := shp_inv hB hi q (by omega) h.sh
  have hk := wt_ok (r := r) (by omega) ho
  rw [← hw] at hk
  have h1 : 0 < w := by
    by_cases e : w = 0
    · rw [e, Int.mul_zero] at hk; omega
    · omega
  refine ⟨?_, by omega, hk.2.2, hk.2.1⟩
  have hu := iv.up p hp
  have hv := iv.lv1
  have ht := h.t0
  have hla : la ≤ mxI (tI l q) la := by rw [mxI_eq]; omega
  rw [h.nd hB hi hq hp] at hk
  have hx : 0 ≤ T + w - 1 - la := by omega
  have hy := Int.mul_le_mul_of_nonneg_right (show 1 ≤ r by omega) hx
  have hz : r * (T + w - 1 - la) ≤ 68608 := by
    simp only [Int.mul_sub, Int.mul_add, Int.mul_one] at hk hu ⊢
    omega
  omega

theorem Inn.raise (hp : p < q) (ho : 0 < ndE arr p q r - B) (hr : ¬ r = 0) {w : Int} (hw : w = wtE r (ndE arr p q r - B)) : Inn l B r q out (p + 1) (arr.set q [.i (tI arr q + w)]) (T + w) lv la := by
  have hc := crE_0.1 hB
  have iv := shp_inv hB hi q (by omega) h.sh
  have hl := iv.len
  obtain ⟨b1, b2, b3, b4⟩ := h.big hB hi hq hp ho hr hw
  have hn := h.nd hB hi hq hp
  rw [hn] at b3 b4
  have ht := h.t0
  have hT : tI arr q = T := by rw [h.eq, ← hl]; exact tI_new
  refine ⟨h.sh, ?_, by omega, b1, fun i h1 h2 => ?_, fun hh => by omega, .inr ⟨p, hp, ?_⟩⟩
  · rw [hT, h.eq, List.set_append, if_neg (by omega), hl, Nat.sub_self]
    rfl
  · have hk := Int.mul_nonneg hc.2.1 b2
    by_cases e : i = p
    · subst e
      simp only [Int.mul_sub, Int.mul_add, Int.mul_one] at b4 ⊢
      omega
    · have := h.ok i (by omega) h2
      simp only [Int.mul_sub, Int.mul_add, Int.mul_one] at this ⊢
      omega
  · simp only [Int.mul_sub, Int.mul_add, Int.mul_one] at b3 ⊢
    omega
end

theorem Inn.fin {l : Rows} {B r : Int} (hB : crE B r = 0) (hi : inT l) {q : Nat} (hq : q < l.length) {out arr : Rows} {T lv la : Int} (h : Inn l B r q out (q + 1) arr T lv la) : ∃ lv' la', shp l B r (q + 1) = some (arr, lv', la') := by
  have hc := crE_0.1 hB
  have iv := shp_inv hB hi q (by omega) h.sh
  have hown := h.own (by omega)
  have hok : ∀ i, i < q → 1024 * ((q : Int) - i + 1) - r * (T - tI out i) ≤ B + r := fun i hi => h.ok i (by omega) hi
  have ht0 := h.t0
  have heq := h.eq
  have hmin := h.min
  simp only [shp, h.sh, stp]
  have hla : la ≤ mxI (tI l q) la := by rw [mxI_eq]; omega
  generalize mxI (tI l q) la = t at ht0 hmin hla ⊢
  by_cases ho : 0 < ovE B r (lfE r lv t la)
  · have hlf : 0 < lv - r * (t - la) := by simp only [ovE, lfE, mxI_eq] at ho; omega
    have hlf' : lfE r lv t la = lv - r * (t - la) := by simp only [ovE, lfE, mxI_eq]; omega
    by_cases hr : r = 0
    · exfalso
      subst hr
      simp only [Int.zero_mul] at hlf hlf' hok
      obtain ⟨i, h1, h2⟩ := iv.at_ (by omega)
      have := hok i h1
      rw [hlf'] at ho
      simp only [Int.zero_mul, ovE] at h2 ho
      omega
    · rw [if_pos ho, if_neg (by omega)]
      have hw := wt_ok (r := r) (by omega) ho
      rw [hlf'] at ho hw ⊢
      generalize hwe : wtE r (ovE B r (lv - r * (t - la))) = w at hw ⊢
      have hlv : 0 < lv := by
        have := iv.lv0
        by_cases e : lv = 0
        · have hz := Int.mul_nonneg hc.2.1 (show 0 ≤ t - la by omega)
          omega
        · omega
      obtain ⟨i0, h1, h2⟩ := iv.at_ hlv
      have hT : T = t + w := by
        have k1 := hok i0 h1
        have lo : w < T - t + 1 := by
          refine Int.lt_of_mul_lt_mul_left (a := r) ?_ hc.2.1
          simp only [Int.mul_sub, Int.mul_add, Int.mul_one, ovE] at hw k1 h2 ⊢
          omega
        have hi' : T < t + w + 1 := by
          rcases hmin with e | ⟨i, g1, g2⟩
          · omega
          · have hu := iv.up i g1
            have : T - 1 < t + w := by
              refine Int.lt_of_mul_lt_mul_left (a := r) ?_ hc.2.1
              simp only [Int.mul_sub, Int.mul_add, Int.mul_one, ovE] at hw g2 hu ⊢
              omega
            omega
        omega
      rw [heq, hT]
      exact ⟨_, _, rfl⟩
  · rw [if_neg ho]
    have hT : T = t := by
      rcases hmin with e | ⟨i, g1, g2⟩
      · exact e
      · have hu := iv.up i g1
        have : T - 1 < t := by
          refine Int.lt_of_mul_lt_mul_left (a := r) ?_ hc.2.1
          simp only [ovE, lfE, mxI_eq] at ho
          simp only [Int.mul_sub, Int.mul_one] at ho g2 hu ⊢
          omega
        omega
    rw [heq, hT]
    exact ⟨_, _, rfl⟩
end HX

namespace HX
open Go Go.Proofs CX
structure V11 (a0_0 : Int) (a0_1 : Int) (R : Nat → Nat → D)  : Prop where
  g0 : R 0 0 = D.i a0_0
  g1 : R 0 1 = D.i a0_1
end HX

namespace HX
open Go Go.Proofs CX
structure V13 (pre : Nat → List (List D) → Prop) (fn : Nat → List (List D) → Nat → Nat → D) (a0_0 : Int) (a0_1 : Int) (R : Nat → Nat → D)  : Prop where
  g0 : pre 48 [[D.l [[D.i a0_0, D.i a0_1]]]]
  g1 : R 0 0 = D.i (D.int (fn 48 [[D.l [[D.i a0_0, D.i a0_1]]]] 0 0))
end HX

namespace HX
open Go Go.Proofs CX
structure V14 (a0_0 : Int) (a0_1 : Int) (R : Nat → Nat → D)  : Prop where
  g0 : (a0_0 < 0) → R 0 0 = D.i 3
  g1 : (¬ a0_0 < 0) → (65536 < a0_0) → R 0 0 = D.i 3
  g2 : (¬ a0_0 < 0) → (¬ 65536 < a0_0) → (a0_1 < 0) → R 0 0 = D.i 3
  g3 : (¬ a0_0 < 0) → (¬ 65536 < a0_0) → (¬ a0_1 < 0) → (1024 < a0_1) → R 0 0 = D.i 3
  g4 : (¬ a0_0 < 0) → (¬ 65536 < a0_0) → (¬ a0_1 < 0) → (¬ 1024 < a0_1) → R 0 0 = D.i 0
end HX

namespace HX
open Go Go.Proofs CX
structure V48 (a0 : Rows) (R : Nat → Nat → D) (I0 : Int → Int → Prop) (m0 : Int → Int → Nat) : Prop where
  i0 : I0 0 0
  g1 : ∀ x y, I0 x y → (y < (a0.length : Int)) → 0 ≤ y
  g2 : ∀ x y, I0 x y → (y < (a0.length : Int)) → y < (a0.length : Int)
  g3 : ∀ x y, I0 x y → (y < (a0.length : Int)) → (((Int.toNat y : Nat) : Int)) < (a0.length : Int)
  g4 : ∀ x y, I0 x y → (y < (a0.length : Int)) → ((D.int (gt a0 y.toNat 0)) < 0) → R 0 0 = D.i 3
  g5 : ∀ x y, I0 x y → (y < (a0.length : Int)) → (¬ (D.int (gt a0 y.toNat 0)) < 0) → (65536 < (D.int (gt a0 y.toNat 0))) → R 0 0 = D.i 3
  g6 : ∀ x y, I0 x y → (y < (a0.length : Int)) → (¬ (D.int (gt a0 y.toNat 0)) < 0) → (¬ 65536 < (D.int (gt a0 y.toNat 0))) → ((D.int (gt a0 y.toNat 1)) < 0) → R 0 0 = D.i 3
  g7 : ∀ x y, I0 x y → (y < (a0.length : Int)) → (¬ (D.int (gt a0 y.toNat 0)) < 0) → (¬ 65536 < (D.int (gt a0 y.toNat 0))) → (¬ (D.int (gt a0 y.toNat 1)) < 0) → (1024 < (D.int (gt a0 y.toNat 1))) → R 0 0 = D.i 3
  g8 : ∀ x y, I0 x y → (y < (a0.length : Int)) → (¬ (D.int (gt a0 y.toNat 0)) < 0) → (¬ 65536 < (D.int (gt a0 y.toNat 0))) → (¬ (D.int (gt a0 y.toNat 1)) < 0) → (¬ 1024 < (D.int (gt a0 y.toNat 1))) → -9223372036854775808 ≤ (y + 1) ∧ (y + 1) ≤ 9223372036854775807
  n9 : ∀ x y, I0 x y → (y < (a0.length : Int)) → (¬ (D.int (gt a0 y.toNat 0)) < 0) → (¬ 65536 < (D.int (gt a0 y.toNat 0))) → (¬ (D.int (gt a0 y.toNat 1)) < 0) → (¬ 1024 < (D.int (gt a0 y.toNat 1))) → I0 x (y + 1) ∧ m0 x (y + 1) < m0 x y
  g10 : ∀ x y, I0 x y → (¬ y < (a0.length : Int)) → R 0 0 = D.i 0
end HX

namespace HX
open Go Go.Proofs CX
structure V87 (a0 : Rows) (R : Nat → Nat → D) (I0 : Bool → Int → Prop) (m0 : Bool → Int → Nat) : Prop where
  g0 : -9223372036854775808 ≤ ((a0.length : Int) - 1) ∧ ((a0.length : Int) - 1) ≤ 9223372036854775807
  i0 : I0 false ((a0.length : Int) - 1)
  g2 : ∀ x y, I0 x y → (0 < y) → 0 ≤ y
  g3 : ∀ x y, I0 x y → (0 < y) → y < (a0.length : Int)
  g4 : ∀ x y, I0 x y → (0 < y) → (((Int.toNat y : Nat) : Int)) < (a0.length : Int)
  g5 : ∀ x y, I0 x y → (0 < y) → -9223372036854775808 ≤ (y - 1) ∧ (y - 1) ≤ 9223372036854775807
  g6 : ∀ x y, I0 x y → (0 < y) → 0 ≤ (y - 1)
  g7 : ∀ x y, I0 x y → (0 < y) → (y - 1) < (a0.length : Int)
  g8 : ∀ x y, I0 x y → (0 < y) → (((Int.toNat (y - 1) : Nat) : Int)) < (a0.length : Int)
  g9 : ∀ x y, I0 x y → (0 < y) → (¬ (D.int (gt a0 y.toNat 0)) = (D.int (gt a0 y.toNat 0))) → ((D.int (gt a0 (Int.toNat (y - 1)) 0)) = (D.int (gt a0 (Int.toNat (y - 1)) 0))) → R 0 0 = D.b false
  g10 : ∀ x y, I0 x y → (0 < y) → (¬ (D.int (gt a0 y.toNat 0)) = (D.int (gt a0 y.toNat 0))) → (¬ (D.int (gt a0 (Int.toNat (y - 1)) 0)) = (D.int (gt a0 (Int.toNat (y - 1)) 0))) → ((D.int (gt a0 y.toNat 0)) < (D.int (gt a0 (Int.toNat (y - 1)) 0))) → R 0 0 = D.b false
  g11 : ∀ x y, I0 x y → (0 < y) → (¬ (D.int (gt a0 y.toNat 0)) = (D.int (gt a0 y.toNat 0))) → (¬ (D.int (gt a0 (Int.toNat (y - 1)) 0)) = (D.int (gt a0 (Int.toNat (y - 1)) 0))) → (¬ (D.int (gt a0 y.toNat 0)) < (D.int (gt a0 (Int.toNat (y - 1)) 0))) → -9223372036854775808 ≤ (y - 1) ∧ (y - 1) ≤ 9223372036854775807
  n12 : ∀ x y, I0 x y → (0 < y) → (¬ (D.int (gt a0 y.toNat 0)) = (D.int (gt a0 y.toNat 0))) → (¬ (D.int (gt a0 (Int.toNat (y - 1)) 0)) = (D.int (gt a0 (Int.toNat (y - 1)) 0))) → (¬ (D.int (gt a0 y.toNat 0)) < (D.int (gt a0 (Int.toNat (y - 1)) 0))) → I0 x (y - 1) ∧ m0 x (y - 1) < m0 x y
  g13 : ∀ x y, I0 x y → (0 < y) → ((D.int (gt a0 y.toNat 0)) = (D.int (gt a0 y.toNat 0))) → ((D.int (gt a0 y.toNat 0)) < (D.int (gt a0 (Int.toNat (y - 1)) 0))) → R 0 0 = D.b false
  g14 : ∀ x y, I0 x y → (0 < y) → ((D.int (gt a0 y.toNat 0)) = (D.int (gt a0 y.toNat 0))) → (¬ (D.int (gt a0 y.toNat 0)) < (D.int (gt a0 (Int.toNat (y - 1)) 0))) → -9223372036854775808 ≤ (y - 1) ∧ (y - 1) ≤ 9223372036854775807
  n15 : ∀ x y, I0 x y → (0 < y) → ((D.int (gt a0 y.toNat 0)) = (D.int (gt a0 y.toNat 0))) → (¬ (D.int (gt a0 y.toNat 0)) < (D.int (gt a0 (Int.toNat (y - 1)) 0))) → I0 x (y - 1) ∧ m0 x (y - 1) < m0 x y
  g16 : ∀ x y, I0 x y → (¬ 0 < y) → R 0 0 = D.b true
end HX

namespace HX
open Go Go.Proofs CX
structure V49 (pre : Nat → List (List D) → Prop) (fn : Nat → List (List D) → Nat → Nat → D) (a0 : Rows) (R : Nat → Nat → D) (I0 : Int → Int → Prop) (m0 : Int → Int → Nat) : Prop where
  g0 : (1024 < (a0.length : Int)) → R 0 0 = D.i 9
  i0 : (¬ 1024 < (a0.length : Int)) → I0 0 0
  g2 : ∀ x y, I0 x y → (¬ 1024 < (a0.length : Int)) → (y < (a0.length : Int)) → 0 ≤ y
  g3 : ∀ x y, I0 x y → (¬ 1024 < (a0.length : Int)) → (y < (a0.length : Int)) → y < (a0.length : Int)
  g4 : ∀ x y, I0 x y → (¬ 1024 < (a0.length : Int)) → (y < (a0.length : Int)) → (((Int.toNat y : Nat) : Int)) < (a0.length : Int)
  g5 : ∀ x y, I0 x y → (¬ 1024 < (a0.length : Int)) → (y < (a0.length : Int)) → ((D.int (gt a0 y.toNat 0)) < 0) → (0 ≤ y) → R 0 0 = D.i 3
  g6 : ∀ x y, I0 x y → (¬ 1024 < (a0.length : Int)) → (y < (a0.length : Int)) → ((D.int (gt a0 y.toNat 0)) < 0) → (¬ 0 ≤ y) → pre 87 [[D.l a0]]
  g7 : ∀ x y, I0 x y → (¬ 1024 < (a0.length : Int)) → (y < (a0.length : Int)) → ((D.int (gt a0 y.toNat 0)) < 0) → (¬ 0 ≤ y) → (D.boo (fn 87 [[D.l a0]] 0 0) = false) → R 0 0 = D.i 2
  g8 : ∀ x y, I0 x y → (¬ 1024 < (a0.length : Int)) → (y < (a0.length : Int)) → ((D.int (gt a0 y.toNat 0)) < 0) → (¬ 0 ≤ y) → (D.boo (fn 87 [[D.l a0]] 0 0) = true) → R 0 0 = D.i 0
  g9 : ∀ x y, I0 x y → (¬ 1024 < (a0.length : Int)) → (y < (a0.length : Int)) → (¬ (D.int (gt a0 y.toNat 0)) < 0) → (10000 < (D.int (gt a0 y.toNat 0))) → (0 ≤ y) → R 0 0 = D.i 3
  g10 : ∀ x y, I0 x y → (¬ 1024 < (a0.length : Int)) → (y < (a0.length : Int)) → (¬ (D.int (gt a0 y.toNat 0)) < 0) → (10000 < (D.int (gt a0 y.toNat 0))) → (¬ 0 ≤ y) → pre 87 [[D.l a0]]
  g11 : ∀ x y, I0 x y → (¬ 1024 < (a0.length : Int)) → (y < (a0.length : Int)) → (¬ (D.int (gt a0 y.toNat 0)) < 0) → (10000 < (D.int (gt a0 y.toNat 0))) → (¬ 0 ≤ y) → (D.boo (fn 87 [[D.l a0]] 0 0) = false) → R 0 0 = D.i 2
  g12 : ∀ x y, I0 x y → (¬ 1024 < (a0.length : Int)) → (y < (a0.length : Int)) → (¬ (D.int (gt a0 y.toNat 0)) < 0) → (10000 < (D.int (gt a0 y.toNat 0))) → (¬ 0 ≤ y) → (D.boo (fn 87 [[D.l a0]] 0 0) = true) → R 0 0 = D.i 0
  g13 : ∀ x y, I0 x y → (¬ 1024 < (a0.length : Int)) → (y < (a0.length : Int)) → (¬ (D.int (gt a0 y.toNat 0)) < 0) → (¬ 10000 < (D.int (gt a0 y.toNat 0))) → -9223372036854775808 ≤ (y + 1) ∧ (y + 1) ≤ 9223372036854775807
  n14 : ∀ x y, I0 x y → (¬ 1024 < (a0.length : Int)) → (y < (a0.length : Int)) → (¬ (D.int (gt a0 y.toNat 0)) < 0) → (¬ 10000 < (D.int (gt a0 y.toNat 0))) → I0 x (y + 1) ∧ m0 x (y + 1) < m0 x y
  g16 : ∀ x y, I0 x y → (¬ 1024 < (a0.length : Int)) → (¬ y < (a0.length : Int)) → pre 87 [[D.l a0]]
  g17 : ∀ x y, I0 x y → (¬ 1024 < (a0.length : Int)) → (¬ y < (a0.length : Int)) → (D.boo (fn 87 [[D.l a0]] 0 0) = false) → R 0 0 = D.i 2
  g18 : ∀ x y, I0 x y → (¬ 1024 < (a0.length : Int)) → (¬ y < (a0.length : Int)) → (D.boo (fn 87 [[D.l a0]] 0 0) = true) → R 0 0 = D.i 0
end HX

namespace HX
open Go Go.Proofs CX
structure V51 (a0 : Rows) (R : Nat → Nat → D) (I0 : Int → Int → Prop) (m0 : Int → Int → Nat) (I1 : Int → Int → Int → Int → Prop) (m1 : Int → Int → Int → Int → Nat) : Prop where
  g0 : (1024 < (a0.length : Int)) → R 0 0 = D.i 9
  i0 : (¬ 1024 < (a0.length : Int)) → I0 0 0
  g2 : ∀ x y, I0 x y → (¬ 1024 < (a0.length : Int)) → (y < (a0.length : Int)) → 0 ≤ y
  g3 : ∀ x y, I0 x y → (¬ 1024 < (a0.length : Int)) → (y < (a0.length : Int)) → y < (a0.length : Int)
  g4 : ∀ x y, I0 x y → (¬ 1024 < (a0.length : Int)) → (y < (a0.length : Int)) → (((Int.toNat y : Nat) : Int)) < (a0.length : Int)
  g5 : ∀ x y, I0 x y → (¬ 1024 < (a0.length : Int)) → (y < (a0.length : Int)) → ((D.int (gt a0 y.toNat 0)) < 0) → R 0 0 = D.i 3
  g6 : ∀ x y, I0 x y → (¬ 1024 < (a0.length : Int)) → (y < (a0.length : Int)) → (¬ (D.int (gt a0 y.toNat 0)) < 0) → 0 ≤ y
  g7 : ∀ x y, I0 x y → (¬ 1024 < (a0.length : Int)) → (y < (a0.length : Int)) → (¬ (D.int (gt a0 y.toNat 0)) < 0) → y < (a0.length : Int)
  g8 : ∀ x y, I0 x y → (¬ 1024 < (a0.length : Int)) → (y < (a0.length : Int)) → (¬ (D.int (gt a0 y.toNat 0)) < 0) → (((Int.toNat y : Nat) : Int)) < (a0.length : Int)
  g9 : ∀ x y, I0 x y → (¬ 1024 < (a0.length : Int)) → (y < (a0.length : Int)) → (¬ (D.int (gt a0 y.toNat 0)) < 0) → (10000 < (D.int (gt a0 y.toNat 0))) → R 0 0 = D.i 3
  g10 : ∀ x y, I0 x y → (¬ 1024 < (a0.length : Int)) → (y < (a0.length : Int)) → (¬ (D.int (gt a0 y.toNat 0)) < 0) → (¬ 10000 < (D.int (gt a0 y.toNat 0))) → -9223372036854775808 ≤ (y + 1) ∧ (y + 1) ≤ 9223372036854775807
  n11 : ∀ x y, I0 x y → (¬ 1024 < (a0.length : Int)) → (y < (a0.length : Int)) → (¬ (D.int (gt a0 y.toNat 0)) < 0) → (¬ 10000 < (D.int (gt a0 y.toNat 0))) → I0 x (y + 1) ∧ m0 x (y + 1) < m0 x y
  i1 : ∀ x y, I0 x y → (¬ 1024 < (a0.length : Int)) → (¬ y < (a0.length : Int)) → I1 x y x 1
  g13 : ∀ x y, I0 x y → ∀ z u, I1 x y z u → (¬ 1024 < (a0.length : Int)) → (¬ y < (a0.length : Int)) → (u < (a0.length : Int)) → 0 ≤ u
  g14 : ∀ x y, I0 x y → ∀ z u, I1 x y z u → (¬ 1024 < (a0.length : Int)) → (¬ y < (a0.length : Int)) → (u < (a0.length : Int)) → u < (a0.length : Int)
  g15 : ∀ x y, I0 x y → ∀ z u, I1 x y z u → (¬ 1024 < (a0.length : Int)) → (¬ y < (a0.length : Int)) → (u < (a0.length : Int)) → (((Int.toNat u : Nat) : Int)) < (a0.length : Int)
  g16 : ∀ x y, I0 x y → ∀ z u, I1 x y z u → (¬ 1024 < (a0.length : Int)) → (¬ y < (a0.length : Int)) → (u < (a0.length : Int)) → -9223372036854775808 ≤ (u - 1) ∧ (u - 1) ≤ 9223372036854775807
  g17 : ∀ x y, I0 x y → ∀ z u, I1 x y z u → (¬ 1024 < (a0.length : Int)) → (¬ y < (a0.length : Int)) → (u < (a0.length : Int)) → 0 ≤ (u - 1)
  g18 : ∀ x y, I0 x y → ∀ z u, I1 x y z u → (¬ 1024 < (a0.length : Int)) → (¬ y < (a0.length : Int)) → (u < (a0.length : Int)) → (u - 1) < (a0.length : Int)
  g19 : ∀ x y, I0 x y → ∀ z u, I1 x y z u → (¬ 1024 < (a0.length : Int)) → (¬ y < (a0.length : Int)) → (u < (a0.length : Int)) → (((Int.toNat (u - 1) : Nat) : Int)) < (a0.length : Int)
  g20 : ∀ x y, I0 x y → ∀ z u, I1 x y z u → (¬ 1024 < (a0.length : Int)) → (¬ y < (a0.length : Int)) → (u < (a0.length : Int)) → ((D.int (gt a0 u.toNat 0)) < (D.int (gt a0 (Int.toNat (u - 1)) 0))) → R 0 0 = D.i 2
  g21 : ∀ x y, I0 x y → ∀ z u, I1 x y z u → (¬ 1024 < (a0.length : Int)) → (¬ y < (a0.length : Int)) → (u < (a0.length : Int)) → (¬ (D.int (gt a0 u.toNat 0)) < (D.int (gt a0 (Int.toNat (u - 1)) 0))) → -9223372036854775808 ≤ (u + 1) ∧ (u + 1) ≤ 9223372036854775807
  n22 : ∀ x y, I0 x y → ∀ z u, I1 x y z u → (¬ 1024 < (a0.length : Int)) → (¬ y < (a0.length : Int)) → (u < (a0.length : Int)) → (¬ (D.int (gt a0 u.toNat 0)) < (D.int (gt a0 (Int.toNat (u - 1)) 0))) → I1 x y z (u + 1) ∧ m1 x y z (u + 1) < m1 x y z u
  g23 : ∀ x y, I0 x y → ∀ z u, I1 x y z u → (¬ 1024 < (a0.length : Int)) → (¬ y < (a0.length : Int)) → (¬ u < (a0.length : Int)) → R 0 0 = D.i 0
end HX

namespace HX
open Go Go.Proofs CX
structure V52 (a0 : Rows) (a1 : Int) (a2 : Int) (a3 : Int) (R : Nat → Nat → D)  : Prop where
  g0 : -9223372036854775808 ≤ (a2 - a1) ∧ (a2 - a1) ≤ 9223372036854775807
  g1 : -9223372036854775808 ≤ ((a2 - a1) + 1) ∧ ((a2 - a1) + 1) ≤ 9223372036854775807
  g2 : -9223372036854775808 ≤ (1024 * ((a2 - a1) + 1)) ∧ (1024 * ((a2 - a1) + 1)) ≤ 9223372036854775807
  g3 : 0 ≤ a2
  g4 : a2 < (a0.length : Int)
  g5 : (((Int.toNat a2 : Nat) : Int)) < (a0.length : Int)
  g6 : 0 ≤ a1
  g7 : a1 < (a0.length : Int)
  g8 : (((Int.toNat a1 : Nat) : Int)) < (a0.length : Int)
  g9 : -9223372036854775808 ≤ ((D.int (gt a0 a2.toNat 0)) - (D.int (gt a0 a1.toNat 0))) ∧ ((D.int (gt a0 a2.toNat 0)) - (D.int (gt a0 a1.toNat 0))) ≤ 9223372036854775807
  g10 : -9223372036854775808 ≤ (((D.int (gt a0 a2.toNat 0)) - (D.int (gt a0 a1.toNat 0))) + 1) ∧ (((D.int (gt a0 a2.toNat 0)) - (D.int (gt a0 a1.toNat 0))) + 1) ≤ 9223372036854775807
  g11 : -9223372036854775808 ≤ (a3 * (((D.int (gt a0 a2.toNat 0)) - (D.int (gt a0 a1.toNat 0))) + 1)) ∧ (a3 * (((D.int (gt a0 a2.toNat 0)) - (D.int (gt a0 a1.toNat 0))) + 1)) ≤ 9223372036854775807
  g12 : -9223372036854775808 ≤ ((1024 * ((a2 - a1) + 1)) - (a3 * (((D.int (gt a0 a2.toNat 0)) - (D.int (gt a0 a1.toNat 0))) + 1))) ∧ ((1024 * ((a2 - a1) + 1)) - (a3 * (((D.int (gt a0 a2.toNat 0)) - (D.int (gt a0 a1.toNat 0))) + 1))) ≤ 9223372036854775807
  g13 : R 0 0 = D.i ((1024 * ((a2 - a1) + 1)) - (a3 * (((D.int (gt a0 a2.toNat 0)) - (D.int (gt a0 a1.toNat 0))) + 1)))
end HX

namespace HX
open Go Go.Proofs CX
structure V15 (pre : Nat → List (List D) → Prop) (fn : Nat → List (List D) → Nat → Nat → D) (a0 : Rows) (a1 : Int) (R : Nat → Nat → D) (I0 : Int → Int → Int → Int → Int → Prop) (m0 : Int → Int → Int → Int → Int → Nat) : Prop where
  g0 : (a1 < 0) → R 0 0 = D.i 0
  g1 : (a1 < 0) → R 1 0 = D.i 3
  g2 : (¬ a1 < 0) → (1024 < a1) → R 0 0 = D.i 0
  g3 : (¬ a1 < 0) → (1024 < a1) → R 1 0 = D.i 3
  g4 : (¬ a1 < 0) → (¬ 1024 < a1) → pre 49 [[D.l a0]]
  g5 : (¬ a1 < 0) → (¬ 1024 < a1) → (¬ (D.int (fn 49 [[D.l a0]] 0 0)) = 0) → R 0 0 = D.i 0
  g6 : (¬ a1 < 0) → (¬ 1024 < a1) → (¬ (D.int (fn 49 [[D.l a0]] 0 0)) = 0) → R 1 0 = D.i (D.int (fn 49 [[D.l a0]] 0 0))
  i0 : (¬ a1 < 0) → (¬ 1024 < a1) → ((D.int (fn 49 [[D.l a0]] 0 0)) = 0) → I0 0 0 a1 0 0
  g8 : ∀ x y z u v, I0 x y z u v → (¬ a1 < 0) → (¬ 1024 < a1) → ((D.int (fn 49 [[D.l a0]] 0 0)) = 0) → (y < (a0.length : Int)) → 0 ≤ y
  g9 : ∀ x y z u v, I0 x y z u v → (¬ a1 < 0) → (¬ 1024 < a1) → ((D.int (fn 49 [[D.l a0]] 0 0)) = 0) → (y < (a0.length : Int)) → y < (a0.length : Int)
  g10 : ∀ x y z u v, I0 x y z u v → (¬ a1 < 0) → (¬ 1024 < a1) → ((D.int (fn 49 [[D.l a0]] 0 0)) = 0) → (y < (a0.length : Int)) → (((Int.toNat y : Nat) : Int)) < (a0.length : Int)
  g11 : ∀ x y z u v, I0 x y z u v → (¬ a1 < 0) → (¬ 1024 < a1) → ((D.int (fn 49 [[D.l a0]] 0 0)) = 0) → (y < (a0.length : Int)) → -9223372036854775808 ≤ ((D.int (gt a0 y.toNat 0)) - v) ∧ ((D.int (gt a0 y.toNat 0)) - v) ≤ 9223372036854775807
  g12 : ∀ x y z u v, I0 x y z u v → (¬ a1 < 0) → (¬ 1024 < a1) → ((D.int (fn 49 [[D.l a0]] 0 0)) = 0) → (y < (a0.length : Int)) → -9223372036854775808 ≤ (z * ((D.int (gt a0 y.toNat 0)) - v)) ∧ (z * ((D.int (gt a0 y.toNat 0)) - v)) ≤ 9223372036854775807
  g13 : ∀ x y z u v, I0 x y z u v → (¬ a1 < 0) → (¬ 1024 < a1) → ((D.int (fn 49 [[D.l a0]] 0 0)) = 0) → (y < (a0.length : Int)) → -9223372036854775808 ≤ (u - (z * ((D.int (gt a0 y.toNat 0)) - v))) ∧ (u - (z * ((D.int (gt a0 y.toNat 0)) - v))) ≤ 9223372036854775807
  g14 : ∀ x y z u v, I0 x y z u v → (¬ a1 < 0) → (¬ 1024 < a1) → ((D.int (fn 49 [[D.l a0]] 0 0)) = 0) → (y < (a0.length : Int)) → -9223372036854775808 ≤ ((mxI 0 (u - (z * ((D.int (gt a0 y.toNat 0)) - v)))) + 1024) ∧ ((mxI 0 (u - (z * ((D.int (gt a0 y.toNat 0)) - v)))) + 1024) ≤ 9223372036854775807
  g15 : ∀ x y z u v, I0 x y z u v → (¬ a1 < 0) → (¬ 1024 < a1) → ((D.int (fn 49 [[D.l a0]] 0 0)) = 0) → (y < (a0.length : Int)) → -9223372036854775808 ≤ (((mxI 0 (u - (z * ((D.int (gt a0 y.toNat 0)) - v)))) + 1024) - z) ∧ (((mxI 0 (u - (z * ((D.int (gt a0 y.toNat 0)) - v)))) + 1024) - z) ≤ 9223372036854775807
  g16 : ∀ x y z u v, I0 x y z u v → (¬ a1 < 0) → (¬ 1024 < a1) → ((D.int (fn 49 [[D.l a0]] 0 0)) = 0) → (y < (a0.length : Int)) → -9223372036854775808 ≤ (y + 1) ∧ (y + 1) ≤ 9223372036854775807
  n17 : ∀ x y z u v, I0 x y z u v → (¬ a1 < 0) → (¬ 1024 < a1) → ((D.int (fn 49 [[D.l a0]] 0 0)) = 0) → (y < (a0.length : Int)) → I0 (mxI x (mxI 0 (((mxI 0 (u - (z * ((D.int (gt a0 y.toNat 0)) - v)))) + 1024) - z))) (y + 1) z ((mxI 0 (u - (z * ((D.int (gt a0 y.toNat 0)) - v)))) + 1024) (D.int (gt a0 y.toNat 0)) ∧ m0 (mxI x (mxI 0 (((mxI 0 (u - (z * ((D.int (gt a0 y.toNat 0)) - v)))) + 1024) - z))) (y + 1) z ((mxI 0 (u - (z * ((D.int (gt a0 y.toNat 0)) - v)))) + 1024) (D.int (gt a0 y.toNat 0)) < m0 x y z u v
  g18 : ∀ x y z u v, I0 x y z u v → (¬ a1 < 0) → (¬ 1024 < a1) → ((D.int (fn 49 [[D.l a0]] 0 0)) = 0) → (¬ y < (a0.length : Int)) → R 0 0 = D.i x
  g19 : ∀ x y z u v, I0 x y z u v → (¬ a1 < 0) → (¬ 1024 < a1) → ((D.int (fn 49 [[D.l a0]] 0 0)) = 0) → (¬ y < (a0.length : Int)) → R 1 0 = D.i 0
end HX

namespace HX
open Go Go.Proofs CX
structure V16 (pre : Nat → List (List D) → Prop) (fn : Nat → List (List D) → Nat → Nat → D) (a0 : Rows) (a1 : Int) (R : Nat → Nat → D) (I0 : Int → Int → Prop) (m0 : Int → Int → Nat) (I1 : Int → Int → Int → Int → Prop) (m1 : Int → Int → Int → Int → Nat) : Prop where
  g0 : (a1 < 0) → R 0 0 = D.i 0
  g1 : (a1 < 0) → R 1 0 = D.i 3
  g2 : (¬ a1 < 0) → (1024 < a1) → R 0 0 = D.i 0
  g3 : (¬ a1 < 0) → (1024 < a1) → R 1 0 = D.i 3
  g4 : (¬ a1 < 0) → (¬ 1024 < a1) → pre 51 [[D.l a0]]
  g5 : (¬ a1 < 0) → (¬ 1024 < a1) → (¬ (D.int (fn 51 [[D.l a0]] 0 0)) = 0) → R 0 0 = D.i 0
  g6 : (¬ a1 < 0) → (¬ 1024 < a1) → (¬ (D.int (fn 51 [[D.l a0]] 0 0)) = 0) → R 1 0 = D.i (D.int (fn 51 [[D.l a0]] 0 0))
  i0 : (¬ a1 < 0) → (¬ 1024 < a1) → ((D.int (fn 51 [[D.l a0]] 0 0)) = 0) → I0 0 0
  i1 : ∀ x y, I0 x y → (¬ a1 < 0) → (¬ 1024 < a1) → ((D.int (fn 51 [[D.l a0]] 0 0)) = 0) → (y < (a0.length : Int)) → I1 x y x y
  g9 : ∀ x y, I0 x y → ∀ z u, I1 x y z u → (¬ a1 < 0) → (¬ 1024 < a1) → ((D.int (fn 51 [[D.l a0]] 0 0)) = 0) → (y < (a0.length : Int)) → (u < (a0.length : Int)) → pre 52 [[D.l a0], [D.i y], [D.i u], [D.i a1]]
  g10 : ∀ x y, I0 x y → ∀ z u, I1 x y z u → (¬ a1 < 0) → (¬ 1024 < a1) → ((D.int (fn 51 [[D.l a0]] 0 0)) = 0) → (y < (a0.length : Int)) → (u < (a0.length : Int)) → -9223372036854775808 ≤ (u + 1) ∧ (u + 1) ≤ 9223372036854775807
  n11 : ∀ x y, I0 x y → ∀ z u, I1 x y z u → (¬ a1 < 0) → (¬ 1024 < a1) → ((D.int (fn 51 [[D.l a0]] 0 0)) = 0) → (y < (a0.length : Int)) → (u < (a0.length : Int)) → I1 x y (mxI z (D.int (fn 52 [[D.l a0], [D.i y], [D.i u], [D.i a1]] 0 0))) (u + 1) ∧ m1 x y (mxI z (D.int (fn 52 [[D.l a0], [D.i y], [D.i u], [D.i a1]] 0 0))) (u + 1) < m1 x y z u
  g12 : ∀ x y, I0 x y → ∀ z u, I1 x y z u → (¬ a1 < 0) → (¬ 1024 < a1) → ((D.int (fn 51 [[D.l a0]] 0 0)) = 0) → (y < (a0.length : Int)) → (¬ u < (a0.length : Int)) → -9223372036854775808 ≤ (y + 1) ∧ (y + 1) ≤ 9223372036854775807
  n13 : ∀ x y, I0 x y → ∀ z u, I1 x y z u → (¬ a1 < 0) → (¬ 1024 < a1) → ((D.int (fn 51 [[D.l a0]] 0 0)) = 0) → (y < (a0.length : Int)) → (¬ u < (a0.length : Int)) → I0 z (y + 1) ∧ m0 z (y + 1) < m0 x y
  g14 : ∀ x y, I0 x y → (¬ a1 < 0) → (¬ 1024 < a1) → ((D.int (fn 51 [[D.l a0]] 0 0)) = 0) → (¬ y < (a0.length : Int)) → R 0 0 = D.i x
  g15 : ∀ x y, I0 x y → (¬ a1 < 0) → (¬ 1024 < a1) → ((D.int (fn 51 [[D.l a0]] 0 0)) = 0) → (¬ y < (a0.length : Int)) → R 1 0 = D.i 0
end HX

namespace HX
open Go Go.Proofs CX
structure V10 (pre : Nat → List (List D) → Prop) (fn : Nat → List (List D) → Nat → Nat → D) (a0 : Rows) (a1_0 : Int) (a1_1 : Int) (R : Nat → Nat → D)  : Prop where
  g0 : pre 13 [[D.i a1_0, D.i a1_1]]
  g1 : (¬ (D.int (fn 13 [[D.i a1_0, D.i a1_1]] 0 0)) = 0) → R 0 0 = D.b false
  g2 : (¬ (D.int (fn 13 [[D.i a1_0, D.i a1_1]] 0 0)) = 0) → R 1 0 = D.i (D.int (fn 13 [[D.i a1_0, D.i a1_1]] 0 0))
  g3 : ((D.int (fn 13 [[D.i a1_0, D.i a1_1]] 0 0)) = 0) → pre 15 [[D.l a0], [D.i a1_1]]
  g4 : ((D.int (fn 13 [[D.i a1_0, D.i a1_1]] 0 0)) = 0) → ((D.int (fn 15 [[D.l a0], [D.i a1_1]] 1 0)) = 0) → R 0 0 = D.b (decide ((D.int (fn 15 [[D.l a0], [D.i a1_1]] 0 0)) ≤ a1_0))
  g5 : ((D.int (fn 13 [[D.i a1_0, D.i a1_1]] 0 0)) = 0) → ((D.int (fn 15 [[D.l a0], [D.i a1_1]] 1 0)) = 0) → R 1 0 = D.i (D.int (fn 15 [[D.l a0], [D.i a1_1]] 1 0))
  g6 : ((D.int (fn 13 [[D.i a1_0, D.i a1_1]] 0 0)) = 0) → (¬ (D.int (fn 15 [[D.l a0], [D.i a1_1]] 1 0)) = 0) → R 0 0 = D.b false
  g7 : ((D.int (fn 13 [[D.i a1_0, D.i a1_1]] 0 0)) = 0) → (¬ (D.int (fn 15 [[D.l a0], [D.i a1_1]] 1 0)) = 0) → R 1 0 = D.i (D.int (fn 15 [[D.l a0], [D.i a1_1]] 1 0))
end HX

namespace HX
open Go Go.Proofs CX
structure V12 (pre : Nat → List (List D) → Prop) (fn : Nat → List (List D) → Nat → Nat → D) (a0 : Rows) (a1_0 : Int) (a1_1 : Int) (R : Nat → Nat → D)  : Prop where
  g0 : pre 14 [[D.i a1_0, D.i a1_1]]
  g1 : (¬ (D.int (fn 14 [[D.i a1_0, D.i a1_1]] 0 0)) = 0) → R 0 0 = D.b false
  g2 : (¬ (D.int (fn 14 [[D.i a1_0, D.i a1_1]] 0 0)) = 0) → R 1 0 = D.i (D.int (fn 14 [[D.i a1_0, D.i a1_1]] 0 0))
  g3 : ((D.int (fn 14 [[D.i a1_0, D.i a1_1]] 0 0)) = 0) → pre 16 [[D.l a0], [D.i a1_1]]
  g4 : ((D.int (fn 14 [[D.i a1_0, D.i a1_1]] 0 0)) = 0) → ((D.int (fn 16 [[D.l a0], [D.i a1_1]] 1 0)) = 0) → R 0 0 = D.b (decide ((D.int (fn 16 [[D.l a0], [D.i a1_1]] 0 0)) ≤ a1_0))
  g5 : ((D.int (fn 14 [[D.i a1_0, D.i a1_1]] 0 0)) = 0) → ((D.int (fn 16 [[D.l a0], [D.i a1_1]] 1 0)) = 0) → R 1 0 = D.i (D.int (fn 16 [[D.l a0], [D.i a1_1]] 1 0))
  g6 : ((D.int (fn 14 [[D.i a1_0, D.i a1_1]] 0 0)) = 0) → (¬ (D.int (fn 16 [[D.l a0], [D.i a1_1]] 1 0)) = 0) → R 0 0 = D.b false
  g7 : ((D.int (fn 14 [[D.i a1_0, D.i a1_1]] 0 0)) = 0) → (¬ (D.int (fn 16 [[D.l a0], [D.i a1_1]] 1 0)) = 0) → R 1 0 = D.i (D.int (fn 16 [[D.l a0], [D.i a1_1]] 1 0))
end HX

namespace HX
open Go Go.Proofs CX
structure V19 (a0 : Rows) (a1 : Rows) (R : Nat → Nat → D) (I0 : Bool → Int → Prop) (m0 : Bool → Int → Nat) : Prop where
  g0 : (¬ (a0.length : Int) = (a1.length : Int)) → R 0 0 = D.b false
  i0 : ((a0.length : Int) = (a1.length : Int)) → I0 false 0
  g2 : ∀ x y, I0 x y → ((a0.length : Int) = (a1.length : Int)) → (y < (a0.length : Int)) → 0 ≤ y
  g3 : ∀ x y, I0 x y → ((a0.length : Int) = (a1.length : Int)) → (y < (a0.length : Int)) → y < (a0.length : Int)
  g4 : ∀ x y, I0 x y → ((a0.length : Int) = (a1.length : Int)) → (y < (a0.length : Int)) → (((Int.toNat y : Nat) : Int)) < (a0.length : Int)
  g6 : ∀ x y, I0 x y → ((a0.length : Int) = (a1.length : Int)) → (y < (a0.length : Int)) → y < (a1.length : Int)
  g7 : ∀ x y, I0 x y → ((a0.length : Int) = (a1.length : Int)) → (y < (a0.length : Int)) → (((Int.toNat y : Nat) : Int)) < (a1.length : Int)
  g8 : ∀ x y, I0 x y → ((a0.length : Int) = (a1.length : Int)) → (y < (a0.length : Int)) → (¬ (D.int (gt a0 y.toNat 0)) = (D.int (gt a1 y.toNat 0))) → R 0 0 = D.b false
  g9 : ∀ x y, I0 x y → ((a0.length : Int) = (a1.length : Int)) → (y < (a0.length : Int)) → ((D.int (gt a0 y.toNat 0)) = (D.int (gt a1 y.toNat 0))) → -9223372036854775808 ≤ (y + 1) ∧ (y + 1) ≤ 9223372036854775807
  n10 : ∀ x y, I0 x y → ((a0.length : Int) = (a1.length : Int)) → (y < (a0.length : Int)) → ((D.int (gt a0 y.toNat 0)) = (D.int (gt a1 y.toNat 0))) → I0 x (y + 1) ∧ m0 x (y + 1) < m0 x y
  g11 : ∀ x y, I0 x y → ((a0.length : Int) = (a1.length : Int)) → (¬ y < (a0.length : Int)) → R 0 0 = D.b true
end HX

namespace HX
open Go Go.Proofs CX

theorem law11 {a0_0 a0_1 : Int} {R : Nat → Nat → D} (h0 : R 0 0 = .i a0_0) (h1 : R 0 1 = .i a0_1) : V11 a0_0 a0_1 R := by
  constructor
  · exact h0
  · exact h1

theorem law14 {a0_0 a0_1 : Int} {R : Nat → Nat → D} (hR : R 0 0 = .i (crE a0_0 a0_1)) : V14 a0_0 a0_1 R := by
  constructor
  all_goals (intros; rw [hR, crE])
  all_goals (first | rw [if_neg (by omega)] | rw [if_pos (by omega)])

theorem law48 {a0 : Rows} (hlen : a0.length ≤ 9223372036854775807) {R : Nat → Nat → D} (hR : R 0 0 = .i (allE a0)) :
    V48 a0 R (fun _ i => ∃ q : Nat, i = q ∧ q ≤ a0.length ∧ ∀ j < q, crE (wI (a0.getD j [])) (rI (a0.getD j [])) = 0) (fun _ i => (a0.length - i).toNat) := by
  constructor
  all_goals (try (intro e i hI; obtain ⟨q, hx, hq, hj⟩ := hI; subst hx))
  all_goals (intros; (try simp only [gt_wI, gt_rI, Int.toNat_natCast] at *))
  all_goals (try omega)
  case i0 => exact ⟨0, rfl, by omega, fun j hj => by omega⟩
  case n9 =>
    refine ⟨⟨q + 1, by omega, by omega, fun j h => ?_⟩, by omega⟩
    by_cases e : j = q
    · subst e; exact crE_0.2 (by omega)
    · exact hj j (by omega)
  case g10 =>
    have h : okC a0 := fun x hx => by obtain ⟨j, h1, rfl⟩ := mem_row hx; exact hj j (by omega)
    rw [hR, allE_0.2 h]
  all_goals
    have h : ¬ okC a0 := fun h => by have := okC_row h (q := q) (by omega); omega
    rw [hR, allE, if_neg h]

theorem law13 {pre : Nat → List (List D) → Prop} {fn : Nat → List (List D) → Nat → Nat → D} (hp48 : ∀ x, pre 48 x) (hf48 : ∀ l, fn 48 [[.l l]] 0 0 = .i (allE l))
    {a0_0 a0_1 : Int} {R : Nat → Nat → D} (hR : R 0 0 = .i (crE a0_0 a0_1)) : V13 pre fn a0_0 a0_1 R := by
  have hi : ∀ n : Int, (D.i n).int = n := fun _ => rfl
  constructor
  · exact hp48 _
  · rw [hR, hf48, hi]
    congr 1
    by_cases h : crE a0_0 a0_1 = 0
    · rw [h, allE_0.2 (fun x hx => by simp only [List.mem_cons, List.not_mem_nil, or_false] at hx; subst hx; exact h)]
    · rw [crE_ne h, allE_ne (fun hh => h (allE_0.1 hh [.i a0_0, .i a0_1] (by simp)))]

open Classical in
theorem law87 {a0 : Rows} (hlen : a0.length ≤ 9223372036854775807) {R : Nat → Nat → D} (hR : R 0 0 = .b (decide (srt a0))) :
    V87 a0 R (fun _ i => (-1 ≤ i ∧ i ≤ (a0.length : Int) - 1) ∧ ∀ j : Nat, i ≤ j → j + 1 < a0.length → tI a0 j ≤ tI a0 (j + 1)) (fun _ i => i.toNat) := by
  constructor
  case i0 => exact ⟨by omega, fun j h1 h2 => by omega⟩
  case g0 => omega
  all_goals (intro e i hI; obtain ⟨⟨h1, h2⟩, h3⟩ := hI; intros; (try contradiction); (try omega); (try simp only [gt_tI] at *))
  case g13 =>
    rw [hR, decide_eq_false]
    intro hs
    have := hs (i - 1).toNat (by omega)
    rw [show (i - 1).toNat + 1 = i.toNat by omega] at this
    omega
  case n15 =>
    refine ⟨⟨by omega, fun j h4 h5 => ?_⟩, by omega⟩
    by_cases e : j = (i - 1).toNat
    · rw [show j + 1 = i.toNat by omega, e]; omega
    · exact h3 j (by omega) h5
  case g16 =>
    rw [hR, decide_eq_true]
    exact fun j hj => h3 j (by omega) hj

theorem tmE_9 {l : Rows} (h : 1024 < (l.length : Int)) : tmE l = 9 := by rw [tmE, if_pos h]
theorem tmE_3 {l : Rows} (h : ¬ 1024 < (l.length : Int)) (hi : ¬ inT l) : tmE l = 3 := by rw [tmE, if_neg h, if_pos hi]
theorem tmE_2 {l : Rows} (h : ¬ 1024 < (l.length : Int)) (hi : inT l) (hs : ¬ srt l) : tmE l = 2 := by rw [tmE, if_neg h, if_neg (fun h => h hi), if_pos hs]
theorem tmE_ok {l : Rows} (h : ¬ 1024 < (l.length : Int)) (hi : inT l) (hs : srt l) : tmE l = 0 := by rw [tmE, if_neg h, if_neg (fun h => h hi), if_neg (fun h => h hs)]

open Classical in
theorem law49 {pre : Nat → List (List D) → Prop} {fn : Nat → List (List D) → Nat → Nat → D} (hp87 : ∀ x, pre 87 x) (hf87 : ∀ l, fn 87 [[.l l]] 0 0 = .b (decide (srt l)))
    {a0 : Rows} (hlen : a0.length ≤ 9223372036854775807) {R : Nat → Nat → D} (hR : R 0 0 = .i (tmE a0)) :
    V49 pre fn a0 R (fun _ i => ∃ q : Nat, i = q ∧ q ≤ a0.length ∧ ∀ j < q, 0 ≤ tI a0 j ∧ tI a0 j ≤ 10000) (fun _ i => (a0.length - i).toNat) := by
  have hb : ∀ b : Bool, (D.b b).boo = b := fun _ => rfl
  constructor
  case g0 => intro h; rw [hR, tmE_9 h]
  case i0 => exact fun _ => ⟨0, rfl, by omega, fun j hj => by omega⟩
  all_goals (intro e i hI; obtain ⟨q, hx, hq, hj⟩ := hI; subst hx)
  all_goals (intros; (try simp only [gt_tI, Int.toNat_natCast, hf87, hb, decide_eq_false_iff_not, decide_eq_true_eq] at *))
  all_goals (try omega)
  all_goals (try exact hp87 _)
  case n14 =>
    refine ⟨⟨q + 1, by omega, by omega, fun j h => ?_⟩, by omega⟩
    by_cases e : j = q
    · subst e; constructor <;> omega
    · exact hj j (by omega)
  case g17 =>
    have hi : inT a0 := fun j h => hj j (by omega)
    rw [hR, tmE_2 (by omega) hi (by assumption)]
  case g18 =>
    have hi : inT a0 := fun j h => hj j (by omega)
    rw [hR, tmE_ok (by omega) hi (by assumption)]
  all_goals
    have hi : ¬ inT a0 := fun h => by have := h q (by omega); have := this.1; have := this; omega
    rw [hR, tmE_3 (by omega) hi]

theorem law51 {a0 : Rows} (hlen : a0.length ≤ 9223372036854775807) {R : Nat → Nat → D} (hR : R 0 0 = .i (tmE a0)) :
    V51 a0 R (fun _ i => ∃ q : Nat, i = q ∧ q ≤ a0.length ∧ ∀ j < q, 0 ≤ tI a0 j ∧ tI a0 j ≤ 10000) (fun _ i => (a0.length - i).toNat)
      (fun _ _ _ i => ∃ q : Nat, i = q ∧ 1 ≤ q ∧ (q ≤ a0.length ∨ q = 1) ∧ inT a0 ∧ ∀ j, j + 1 < q → tI a0 j ≤ tI a0 (j + 1)) (fun _ _ _ i => (a0.length - i).toNat) := by
  constructor
  case g0 => intro h; rw [hR, tmE_9 h]
  case i0 => exact fun _ => ⟨0, rfl, by omega, fun j hj => by omega⟩
  all_goals (intro e i hI; obtain ⟨q, hx, hq, hj⟩ := hI; subst hx)
  case i1 => exact fun _ _ => ⟨1, rfl, by omega, .inr rfl, fun j h => hj j (by omega), fun j h => by omega⟩
  case n11 =>
    intros
    simp only [gt_tI, Int.toNat_natCast] at *
    refine ⟨⟨q + 1, by omega, by omega, fun j h => ?_⟩, by omega⟩
    by_cases e : j = q
    · subst e; constructor <;> omega
    · exact hj j (by omega)
  case g5 =>
    intros
    simp only [gt_tI, Int.toNat_natCast] at *
    rw [hR, tmE_3 (by omega) (fun h => by have := (h q (by omega)).1; omega)]
  case g9 =>
    intros
    simp only [gt_tI, Int.toNat_natCast] at *
    rw [hR, tmE_3 (by omega) (fun h => by have := (h q (by omega)).2; omega)]
  case g2 | g3 | g4 | g6 | g7 | g8 | g10 => intros; (try simp only [Int.toNat_natCast]); omega
  all_goals (intro e2 i2 hI2; obtain ⟨p, hx, hp, hp2, hi, hs⟩ := hI2; subst hx; intros; (try simp only [gt_tI, Int.toNat_natCast] at *))
  all_goals (try omega)
  case g20 =>
    rw [hR, tmE_2 (by omega) hi]
    intro hh
    have := hh (p - 1) (by omega)
    rw [show p - 1 + 1 = p by omega] at this
    have e : ((p : Int) - 1).toNat = p - 1 := by omega
    simp only [e] at *
    omega
  case n22 =>
    have e : ((p : Int) - 1).toNat = p - 1 := by omega
    simp only [e] at *
    refine ⟨⟨p + 1, by omega, by omega, by omega, hi, fun j h => ?_⟩, by omega⟩
    by_cases e : j = p - 1
    · subst e; rw [show p - 1 + 1 = p by omega]; omega
    · exact hs j (by omega)
  case g23 => rw [hR, tmE_ok (by omega) hi (fun j h => hs j (by omega))]

def okN (l : Rows) (i k r : Int) : Prop := ((0 ≤ i ∧ i ≤ k) ∧ k < l.length) ∧ (l.length : Int) ≤ 1024 ∧ (0 ≤ r ∧ r ≤ 1024) ∧ (0 ≤ tI l i.toNat ∧ tI l i.toNat ≤ 1000000000) ∧ 0 ≤ tI l k.toNat ∧ tI l k.toNat ≤ 1000000000
theorem law52 {a0 : Rows} {i k r : Int} (h : okN a0 i k r) {R : Nat → Nat → D} (hR : R 0 0 = .i (ndE a0 i k r)) : V52 a0 i k r R := by
  obtain ⟨h1, h2, h3, h4, h5⟩ := h
  have m1 := mulN h3.1 h3.2 (w := tI a0 k.toNat) h5.1 h5.2
  have m2 := mulN h3.1 h3.2 (w := tI a0 i.toNat) h4.1 h4.2
  constructor
  case g13 => rw [hR]; rfl
  all_goals ((try simp only [gt_tI, Int.mul_sub, Int.mul_add, Int.mul_one]); omega)

noncomputable def buE (l : Rows) (r : Int) : Int := if r < 0 ∨ 1024 < r then 3 else tmE l
noncomputable def buB (l : Rows) (r : Int) : Int := if buE l r = 0 then mst l r l.length else 0
theorem buE_3 {l : Rows} {r : Int} (h : r < 0 ∨ 1024 < r) : buE l r = 3 ∧ buB l r = 0 := by
  have e : buE l r = 3 := by rw [buE, if_pos h]
  exact ⟨e, by rw [buB, e, if_neg (by omega)]⟩
theorem buE_t {l : Rows} {r : Int} (h1 : ¬ r < 0) (h2 : ¬ 1024 < r) : buE l r = tmE l := by rw [buE, if_neg (by omega)]
theorem buB_0 {l : Rows} {r : Int} (h1 : ¬ r < 0) (h2 : ¬ 1024 < r) (h : ¬ tmE l = 0) : buB l r = 0 := by rw [buB, buE_t h1 h2, if_neg h]
theorem buB_m {l : Rows} {r : Int} (h1 : ¬ r < 0) (h2 : ¬ 1024 < r) (h : tmE l = 0) : buB l r = mst l r l.length := by rw [buB, buE_t h1 h2, if_pos h]

theorem law15 {pre : Nat → List (List D) → Prop} {fn : Nat → List (List D) → Nat → Nat → D} (hp49 : ∀ x, pre 49 x) (hf49 : ∀ l, fn 49 [[.l l]] 0 0 = .i (tmE l))
    {a0 : Rows} {a1 : Int} {R : Nat → Nat → D} (hR0 : R 0 0 = .i (buB a0 a1)) (hR1 : R 1 0 = .i (buE a0 a1)) :
    V15 pre fn a0 a1 R (fun m i x lv la => ∃ q : Nat, i = q ∧ q ≤ a0.length ∧ m = mst a0 a1 q ∧ x = a1 ∧ lv = lev a0 a1 q ∧ la = lst a0 q) (fun _ i _ _ _ => (a0.length - i).toNat) := by
  have hi : ∀ n : Int, (D.i n).int = n := fun _ => rfl
  constructor
  case g4 => intros; exact hp49 _
  all_goals (try simp only [hf49, hi])
  case g0 | g1 | g2 | g3 => intros; first | rw [hR0, (buE_3 (l := a0) (r := a1) (by omega)).2] | rw [hR1, (buE_3 (l := a0) (r := a1) (by omega)).1]
  case g5 => intro h1 h2 h3; rw [hR0, buB_0 h1 h2 h3]
  case g6 => intro h1 h2 h3; rw [hR1, buE_t h1 h2]
  case i0 => exact fun _ _ _ => ⟨0, rfl, by omega, rfl, by trivial, rfl, rfl⟩
  all_goals (intro m i x lv la hI h1 h2 h3 h4; obtain ⟨q, hx, hq, e1, e2, e3, e4⟩ := hI; subst hx e1 e2 e3 e4; obtain ⟨hl, hin, hs⟩ := tmE_0 h3; (try simp only [gt_tI, Int.toNat_natCast]))
  case g18 => rw [hR0, buB_m h1 h2 h3, show q = a0.length by omega]
  case g19 => rw [hR1, buE_t h1 h2, h3]
  case n17 => exact ⟨⟨q + 1, by omega, by omega, rfl, by trivial, rfl, rfl⟩, by omega⟩
  all_goals
    have hb := lev_bd (r := x) (by omega) (by omega) hin hs q hq
    have hle := lst_le hin hs (q := q) (by omega)
    have hu := hin q (by omega)
    have hm := mulN (r := x) (by omega) (by omega) (w := tI a0 q - lst a0 q) (N := 10000) (by omega) (by omega)
    (try simp only [mxI_eq])
    omega

theorem law16 {pre : Nat → List (List D) → Prop} {fn : Nat → List (List D) → Nat → Nat → D} (hp51 : ∀ x, pre 51 x) (hf51 : ∀ l, fn 51 [[.l l]] 0 0 = .i (tmE l))
    (hp52 : ∀ l i k r, okN l i k r → pre 52 [[.l l], [.i i], [.i k], [.i r]]) (hf52 : ∀ l i k r, fn 52 [[.l l], [.i i], [.i k], [.i r]] 0 0 = .i (ndE l i k r))
    {a0 : Rows} {a1 : Int} {R : Nat → Nat → D} (hR0 : R 0 0 = .i (buB a0 a1)) (hR1 : R 1 0 = .i (buE a0 a1)) :
    V16 pre fn a0 a1 R (fun b i => ∃ q : Nat, i = q ∧ q ≤ a0.length ∧ Win a0 a1 q 0 b) (fun _ i => (a0.length - i).toNat)
      (fun _ i b k => ∃ q p : Nat, i = q ∧ k = p ∧ q ≤ p ∧ p ≤ a0.length ∧ Win a0 a1 q p b) (fun _ _ _ k => (a0.length - k).toNat) := by
  have hi : ∀ n : Int, (D.i n).int = n := fun _ => rfl
  constructor
  case g4 => intros; exact hp51 _
  all_goals (try simp only [hf51, hf52, hi])
  case g0 | g1 | g2 | g3 => intros; first | rw [hR0, (buE_3 (l := a0) (r := a1) (by omega)).2] | rw [hR1, (buE_3 (l := a0) (r := a1) (by omega)).1]
  case g5 => intro h1 h2 h3; rw [hR0, buB_0 h1 h2 h3]
  case g6 => intro h1 h2 h3; rw [hR1, buE_t h1 h2]
  case i0 => exact fun _ _ _ => ⟨0, rfl, by omega, win_0⟩
  all_goals (intro b i hI; obtain ⟨q, hx, hq, hw⟩ := hI; subst hx)
  case i1 => exact fun _ _ _ _ => ⟨q, q, rfl, rfl, Nat.le_refl _, hq, win_in hw⟩
  case g14 =>
    intro h1 h2 h3 h4
    obtain ⟨hl, hin, hs⟩ := tmE_0 h3
    have e : q = a0.length := by omega
    subst e
    rw [hR0, buB_m h1 h2 h3, win_end (by omega) (by omega) hin hs hw]
  case g15 => intro h1 h2 h3 h4; rw [hR1, buE_t h1 h2, h3]
  all_goals (intro c k hI; obtain ⟨q', p, hx, hy, hqp, hp, hv⟩ := hI; subst hy; obtain rfl : q = q' := (by omega); intro h1 h2 h3 h4 h5; obtain ⟨hl, hin, hs⟩ := tmE_0 h3)
  case g9 =>
    refine hp52 _ _ _ _ ⟨by omega, hl, by omega, ?_⟩
    simp only [Int.toNat_natCast]
    have := hin q (by omega)
    have := hin p (by omega)
    omega
  case n11 => exact ⟨⟨q, p + 1, rfl, by omega, by omega, by omega, win_step (by omega) (by omega) hin hl hqp (by omega) hv⟩, by omega⟩
  case n13 => exact ⟨⟨q + 1, by omega, by omega, win_out (by rw [show a0.length = p by omega]; exact hv)⟩, by omega⟩
  all_goals omega

noncomputable def kpE (l : Rows) (b r : Int) : Int := if crE b r = 0 then buE l r else crE b r
open Classical in
noncomputable def kpB (l : Rows) (b r : Int) : Bool := decide ((crE b r = 0 ∧ buE l r = 0) ∧ buB l r ≤ b)
theorem law10 {pre : Nat → List (List D) → Prop} {fn : Nat → List (List D) → Nat → Nat → D} (hp13 : ∀ x, pre 13 x) (hf13 : ∀ a b, fn 13 [[.i a, .i b]] 0 0 = .i (crE a b))
    (hp15 : ∀ x, pre 15 x) (hf15 : ∀ l r, fn 15 [[.l l], [.i r]] 0 0 = .i (buB l r) ∧ fn 15 [[.l l], [.i r]] 1 0 = .i (buE l r))
    {a0 : Rows} {b r : Int} {R : Nat → Nat → D} (hR0 : R 0 0 = .b (kpB a0 b r)) (hR1 : R 1 0 = .i (kpE a0 b r)) : V10 pre fn a0 b r R := by
  have hi : ∀ n : Int, (D.i n).int = n := fun _ => rfl
  constructor
  all_goals (try simp only [hf13, hf15, hi])
  case g0 => exact hp13 _
  case g3 => exact fun _ => hp15 _
  case g1 => intro h; rw [hR0, kpB, decide_eq_false fun x => h x.1.1]
  case g2 => intro h; rw [hR1, kpE, if_neg h]
  case g4 =>
    intro h1 h2
    rw [hR0, kpB]
    congr 1
    exact decide_eq_decide.2 ⟨fun x => x.2, fun x => ⟨⟨h1, h2⟩, x⟩⟩
  case g6 => intro h1 h2; rw [hR0, kpB, decide_eq_false fun x => h2 x.1.2]
  case g5 | g7 => intro h1 h2; rw [hR1, kpE, if_pos h1]
theorem law12 {pre : Nat → List (List D) → Prop} {fn : Nat → List (List D) → Nat → Nat → D} (hp14 : ∀ x, pre 14 x) (hf14 : ∀ a b, fn 14 [[.i a, .i b]] 0 0 = .i (crE a b))
    (hp16 : ∀ x, pre 16 x) (hf16 : ∀ l r, fn 16 [[.l l], [.i r]] 0 0 = .i (buB l r) ∧ fn 16 [[.l l], [.i r]] 1 0 = .i (buE l r))
    {a0 : Rows} {b r : Int} {R : Nat → Nat → D} (hR0 : R 0 0 = .b (kpB a0 b r)) (hR1 : R 1 0 = .i (kpE a0 b r)) : V12 pre fn a0 b r R := by
  have hi : ∀ n : Int, (D.i n).int = n := fun _ => rfl
  constructor
  all_goals (try simp only [hf14, hf16, hi])
  case g0 => exact hp14 _
  case g3 => exact fun _ => hp16 _
  case g1 => intro h; rw [hR0, kpB, decide_eq_false fun x => h x.1.1]
  case g2 => intro h; rw [hR1, kpE, if_neg h]
  case g4 =>
    intro h1 h2
    rw [hR0, kpB]
    congr 1
    exact decide_eq_decide.2 ⟨fun x => x.2, fun x => ⟨⟨h1, h2⟩, x⟩⟩
  case g6 => intro h1 h2; rw [hR0, kpB, decide_eq_false fun x => h2 x.1.2]
  case g5 | g7 => intro h1 h2; rw [hR1, kpE, if_pos h1]

theorem law19 {a0 : Rows} (hlen : a0.length ≤ 9223372036854775807) {R : Nat → Nat → D} (hR : R 0 0 = .b true) :
    V19 a0 a0 R (fun _ i => ∃ q : Nat, i = q ∧ q ≤ a0.length) (fun _ i => (a0.length - i).toNat) := by
  constructor
  case i0 => exact fun _ => ⟨0, rfl, by omega⟩
  case g0 => exact fun h => absurd rfl h
  all_goals (intro e i hI; obtain ⟨q, hx, hq⟩ := hI; subst hx; intros; (try contradiction); (try simp only [Int.toNat_natCast]))
  case n10 => exact ⟨⟨q + 1, by omega, by omega⟩, by omega⟩
  case g11 => exact hR
  all_goals omega
end HX

namespace HX
open Go Go.Proofs CX
abbrev v17a (y : Int) (r : Int) (a0 : Rows) (u : Int) (z : Int) (b : Int) := ((((mxI 0 (y - (r * ((mxI (D.int (gt a0 u.toNat 0)) z) - z)))) + 1024) - r) - b)
abbrev v17b (fn : Nat → List (List D) → Nat → Nat → D) (b : Int) (r : Int) := ((D.int (fn 13 [[D.i b, D.i r]] 0 0)) = 0)
abbrev v17c (fn : Nat → List (List D) → Nat → Nat → D) (a0 : Rows) := ((D.int (fn 49 [[D.l a0]] 0 0)) = 0)
abbrev v17d (a0 : Rows) (u : Int) (z : Int) := (mxI (D.int (gt a0 u.toNat 0)) z)
abbrev v17e (y : Int) (r : Int) (a0 : Rows) (u : Int) (z : Int) (b : Int) := (Int.tdiv (((v17a y r a0 u z b) + r) - 1) r)
abbrev v17i (x : Int) : Prop := -9223372036854775808 ≤ x ∧ x ≤ 9223372036854775807
structure V17 (pre : Nat → List (List D) → Prop) (fn : Nat → List (List D) → Nat → Nat → D) (a0 : Rows) (b : Int) (r : Int) (R : Nat → Nat → D) (I0 : Rows → Int → Int → Int → Prop) (m0 : Rows → Int → Int → Int → Nat) : Prop where
  g0 : pre 13 [[D.i b, D.i r]]
  g1 : (¬ (D.int (fn 13 [[D.i b, D.i r]] 0 0)) = 0) → R 0 0 = D.l []
  g2 : (¬ (D.int (fn 13 [[D.i b, D.i r]] 0 0)) = 0) → R 1 0 = D.i (D.int (fn 13 [[D.i b, D.i r]] 0 0))
  g3 : (v17b fn b r) → pre 49 [[D.l a0]]
  g4 : (v17b fn b r) → (¬ (D.int (fn 49 [[D.l a0]] 0 0)) = 0) → R 0 0 = D.l []
  g5 : (v17b fn b r) → (¬ (D.int (fn 49 [[D.l a0]] 0 0)) = 0) → R 1 0 = D.i (D.int (fn 49 [[D.l a0]] 0 0))
  i0 : (v17b fn b r) → (v17c fn a0) → I0 [] 0 0 0
  g7 : ∀ x y z u, I0 x y z u → (v17b fn b r) → (v17c fn a0) → (u < (a0.length : Int)) → 0 ≤ u
  g8 : ∀ x y z u, I0 x y z u → (v17b fn b r) → (v17c fn a0) → (u < (a0.length : Int)) → u < (a0.length : Int)
  g9 : ∀ x y z u, I0 x y z u → (v17b fn b r) → (v17c fn a0) → (u < (a0.length : Int)) → (((Int.toNat u : Nat) : Int)) < (a0.length : Int)
  g10 : ∀ x y z u, I0 x y z u → (v17b fn b r) → (v17c fn a0) → (u < (a0.length : Int)) → (v17i ((v17d a0 u z) - z))
  g11 : ∀ x y z u, I0 x y z u → (v17b fn b r) → (v17c fn a0) → (u < (a0.length : Int)) → (v17i (r * ((v17d a0 u z) - z)))
  g12 : ∀ x y z u, I0 x y z u → (v17b fn b r) → (v17c fn a0) → (u < (a0.length : Int)) → (v17i (y - (r * ((v17d a0 u z) - z))))
  g13 : ∀ x y z u, I0 x y z u → (v17b fn b r) → (v17c fn a0) → (u < (a0.length : Int)) → (v17i ((mxI 0 (y - (r * ((v17d a0 u z) - z)))) + 1024))
  g14 : ∀ x y z u, I0 x y z u → (v17b fn b r) → (v17c fn a0) → (u < (a0.length : Int)) → (v17i (((mxI 0 (y - (r * ((v17d a0 u z) - z)))) + 1024) - r))
  g15 : ∀ x y z u, I0 x y z u → (v17b fn b r) → (v17c fn a0) → (u < (a0.length : Int)) → (v17i (v17a y r a0 u z b))
  g16 : ∀ x y z u, I0 x y z u → (v17b fn b r) → (v17c fn a0) → (u < (a0.length : Int)) → (0 < (v17a y r a0 u z b)) → (r = 0) → R 0 0 = D.l []
  g17 : ∀ x y z u, I0 x y z u → (v17b fn b r) → (v17c fn a0) → (u < (a0.length : Int)) → (0 < (v17a y r a0 u z b)) → (r = 0) → R 1 0 = D.i 21
  g18 : ∀ x y z u, I0 x y z u → (v17b fn b r) → (v17c fn a0) → (u < (a0.length : Int)) → (0 < (v17a y r a0 u z b)) → (¬ r = 0) → (v17i (b + r))
  g19 : ∀ x y z u, I0 x y z u → (v17b fn b r) → (v17c fn a0) → (u < (a0.length : Int)) → (0 < (v17a y r a0 u z b)) → (¬ r = 0) → ((b + r) < 1024) → R 0 0 = D.l []
  g20 : ∀ x y z u, I0 x y z u → (v17b fn b r) → (v17c fn a0) → (u < (a0.length : Int)) → (0 < (v17a y r a0 u z b)) → (¬ r = 0) → ((b + r) < 1024) → R 1 0 = D.i 21
  g21 : ∀ x y z u, I0 x y z u → (v17b fn b r) → (v17c fn a0) → (u < (a0.length : Int)) → (0 < (v17a y r a0 u z b)) → (¬ r = 0) → (¬ (b + r) < 1024) → (v17i ((v17a y r a0 u z b) + r))
  g22 : ∀ x y z u, I0 x y z u → (v17b fn b r) → (v17c fn a0) → (u < (a0.length : Int)) → (0 < (v17a y r a0 u z b)) → (¬ r = 0) → (¬ (b + r) < 1024) → (v17i (((v17a y r a0 u z b) + r) - 1))
  g23 : ∀ x y z u, I0 x y z u → (v17b fn b r) → (v17c fn a0) → (u < (a0.length : Int)) → (0 < (v17a y r a0 u z b)) → (¬ r = 0) → (¬ (b + r) < 1024) → r ≠ 0
  g24 : ∀ x y z u, I0 x y z u → (v17b fn b r) → (v17c fn a0) → (u < (a0.length : Int)) → (0 < (v17a y r a0 u z b)) → (¬ r = 0) → (¬ (b + r) < 1024) → (v17i (v17e y r a0 u z b))
  g25 : ∀ x y z u, I0 x y z u → (v17b fn b r) → (v17c fn a0) → (u < (a0.length : Int)) → (0 < (v17a y r a0 u z b)) → (¬ r = 0) → (¬ (b + r) < 1024) → (v17i ((v17d a0 u z) + (v17e y r a0 u z b)))
  g26 : ∀ x y z u, I0 x y z u → (v17b fn b r) → (v17c fn a0) → (u < (a0.length : Int)) → (0 < (v17a y r a0 u z b)) → (¬ r = 0) → (¬ (b + r) < 1024) → (v17i (r * (v17e y r a0 u z b)))
  g27 : ∀ x y z u, I0 x y z u → (v17b fn b r) → (v17c fn a0) → (u < (a0.length : Int)) → (0 < (v17a y r a0 u z b)) → (¬ r = 0) → (¬ (b + r) < 1024) → (v17i ((mxI 0 (y - (r * ((v17d a0 u z) - z)))) - (r * (v17e y r a0 u z b))))
  g28 : ∀ x y z u, I0 x y z u → (v17b fn b r) → (v17c fn a0) → (u < (a0.length : Int)) → (0 < (v17a y r a0 u z b)) → (¬ r = 0) → (¬ (b + r) < 1024) → (x.length + (List.length ([[D.i ((v17d a0 u z) + (v17e y r a0 u z b))]] : Rows))) * 8 ≤ 4294967296 ∧ (x.length + (List.length ([[D.i ((v17d a0 u z) + (v17e y r a0 u z b))]] : Rows))) ≤ 4294967296
  g29 : ∀ x y z u, I0 x y z u → (v17b fn b r) → (v17c fn a0) → (u < (a0.length : Int)) → (0 < (v17a y r a0 u z b)) → (¬ r = 0) → (¬ (b + r) < 1024) → (v17i ((mxI 0 ((mxI 0 (y - (r * ((v17d a0 u z) - z)))) - (r * (v17e y r a0 u z b)))) + 1024))
  g30 : ∀ x y z u, I0 x y z u → (v17b fn b r) → (v17c fn a0) → (u < (a0.length : Int)) → (0 < (v17a y r a0 u z b)) → (¬ r = 0) → (¬ (b + r) < 1024) → (v17i (u + 1))
  n31 : ∀ x y z u, I0 x y z u → (v17b fn b r) → (v17c fn a0) → (u < (a0.length : Int)) → (0 < (v17a y r a0 u z b)) → (¬ r = 0) → (¬ (b + r) < 1024) → I0 (x ++ [[D.i ((v17d a0 u z) + (v17e y r a0 u z b))]]) ((mxI 0 ((mxI 0 (y - (r * ((v17d a0 u z) - z)))) - (r * (v17e y r a0 u z b)))) + 1024) ((v17d a0 u z) + (v17e y r a0 u z b)) (u + 1) ∧ m0 (x ++ [[D.i ((v17d a0 u z) + (v17e y r a0 u z b))]]) ((mxI 0 ((mxI 0 (y - (r * ((v17d a0 u z) - z)))) - (r * (v17e y r a0 u z b)))) + 1024) ((v17d a0 u z) + (v17e y r a0 u z b)) (u + 1) < m0 x y z u
  g32 : ∀ x y z u, I0 x y z u → (v17b fn b r) → (v17c fn a0) → (u < (a0.length : Int)) → (¬ 0 < (v17a y r a0 u z b)) → (x.length + (List.length ([[D.i (v17d a0 u z)]] : Rows))) * 8 ≤ 4294967296 ∧ (x.length + (List.length ([[D.i (v17d a0 u z)]] : Rows))) ≤ 4294967296
  g33 : ∀ x y z u, I0 x y z u → (v17b fn b r) → (v17c fn a0) → (u < (a0.length : Int)) → (¬ 0 < (v17a y r a0 u z b)) → (v17i ((mxI 0 (y - (r * ((v17d a0 u z) - z)))) + 1024))
  g34 : ∀ x y z u, I0 x y z u → (v17b fn b r) → (v17c fn a0) → (u < (a0.length : Int)) → (¬ 0 < (v17a y r a0 u z b)) → (v17i (u + 1))
  n35 : ∀ x y z u, I0 x y z u → (v17b fn b r) → (v17c fn a0) → (u < (a0.length : Int)) → (¬ 0 < (v17a y r a0 u z b)) → I0 (x ++ [[D.i (v17d a0 u z)]]) ((mxI 0 (y - (r * ((v17d a0 u z) - z)))) + 1024) (v17d a0 u z) (u + 1) ∧ m0 (x ++ [[D.i (v17d a0 u z)]]) ((mxI 0 (y - (r * ((v17d a0 u z) - z)))) + 1024) (v17d a0 u z) (u + 1) < m0 x y z u
  g36 : ∀ x y z u, I0 x y z u → (v17b fn b r) → (v17c fn a0) → (¬ u < (a0.length : Int)) → R 0 0 = D.l x
  g37 : ∀ x y z u, I0 x y z u → (v17b fn b r) → (v17c fn a0) → (¬ u < (a0.length : Int)) → R 1 0 = D.i 0
end HX

namespace HX
open Go Go.Proofs CX
abbrev v18a (fn : Nat → List (List D) → Nat → Nat → D) (u : Rows) (z : Int) (y : Int) (r : Int) (b : Int) := ((D.int (fn 52 [[D.l u], [D.i z], [D.i y], [D.i r]] 0 0)) - b)
abbrev v18b (fn : Nat → List (List D) → Nat → Nat → D) (w : Rows) (v : Int) (y : Int) (r : Int) (b : Int) := ((D.int (fn 52 [[D.l w], [D.i v], [D.i y], [D.i r]] 0 0)) - b)
abbrev v18c (fn : Nat → List (List D) → Nat → Nat → D) (b : Int) (r : Int) := ((D.int (fn 14 [[D.i b, D.i r]] 0 0)) = 0)
abbrev v18d (fn : Nat → List (List D) → Nat → Nat → D) (a0 : Rows) := ((D.int (fn 51 [[D.l a0]] 0 0)) = 0)
abbrev v18e (u : Rows) (y : Int) (fn : Nat → List (List D) → Nat → Nat → D) (z : Int) (r : Int) (b : Int) := ((D.int (gt u y.toNat 0)) + (Int.tdiv (((v18a fn u z y r b) + r) - 1) r))
abbrev v18f (w : Rows) (y : Int) (fn : Nat → List (List D) → Nat → Nat → D) (v : Int) (r : Int) (b : Int) := ((D.int (gt w y.toNat 0)) + (Int.tdiv (((v18b fn w v y r b) + r) - 1) r))
abbrev v18i (x : Int) : Prop := -9223372036854775808 ≤ x ∧ x ≤ 9223372036854775807
structure V18 (pre : Nat → List (List D) → Prop) (fn : Nat → List (List D) → Nat → Nat → D) (a0 : Rows) (b : Int) (r : Int) (R : Nat → Nat → D) (I0 : Rows → Int → Prop) (m0 : Rows → Int → Nat) (I1 : Rows → Int → Int → Rows → Prop) (m1 : Rows → Int → Int → Rows → Nat) (I2 : Rows → Int → Int → Rows → Prop) (m2 : Rows → Int → Int → Rows → Nat) : Prop where
  g0 : pre 14 [[D.i b, D.i r]]
  g1 : (¬ (D.int (fn 14 [[D.i b, D.i r]] 0 0)) = 0) → R 0 0 = D.l []
  g2 : (¬ (D.int (fn 14 [[D.i b, D.i r]] 0 0)) = 0) → R 1 0 = D.i (D.int (fn 14 [[D.i b, D.i r]] 0 0))
  g3 : (v18c fn b r) → pre 51 [[D.l a0]]
  g4 : (v18c fn b r) → (¬ (D.int (fn 51 [[D.l a0]] 0 0)) = 0) → R 0 0 = D.l []
  g5 : (v18c fn b r) → (¬ (D.int (fn 51 [[D.l a0]] 0 0)) = 0) → R 1 0 = D.i (D.int (fn 51 [[D.l a0]] 0 0))
  i0 : (v18c fn b r) → (v18d fn a0) → I0 [] 0
  g7 : ∀ x y, I0 x y → (v18c fn b r) → (v18d fn a0) → (y < (a0.length : Int)) → 0 ≤ y
  g8 : ∀ x y, I0 x y → (v18c fn b r) → (v18d fn a0) → (y < (a0.length : Int)) → y < (a0.length : Int)
  g9 : ∀ x y, I0 x y → (v18c fn b r) → (v18d fn a0) → (y < (a0.length : Int)) → (((Int.toNat y : Nat) : Int)) < (a0.length : Int)
  g10 : ∀ x y, I0 x y → (v18c fn b r) → (v18d fn a0) → (y < (a0.length : Int)) → (0 < y) → (v18i (y - 1))
  g11 : ∀ x y, I0 x y → (v18c fn b r) → (v18d fn a0) → (y < (a0.length : Int)) → (0 < y) → 0 ≤ (y - 1)
  g12 : ∀ x y, I0 x y → (v18c fn b r) → (v18d fn a0) → (y < (a0.length : Int)) → (0 < y) → (y - 1) < (x.length : Int)
  g13 : ∀ x y, I0 x y → (v18c fn b r) → (v18d fn a0) → (y < (a0.length : Int)) → (0 < y) → (((Int.toNat (y - 1) : Nat) : Int)) < (x.length : Int)
  g14 : ∀ x y, I0 x y → (v18c fn b r) → (v18d fn a0) → (y < (a0.length : Int)) → (0 < y) → (x.length + (List.length ([[D.i (mxI (D.int (gt a0 y.toNat 0)) (D.int (gt x (Int.toNat (y - 1)) 0)))]] : Rows))) * 8 ≤ 4294967296 ∧ (x.length + (List.length ([[D.i (mxI (D.int (gt a0 y.toNat 0)) (D.int (gt x (Int.toNat (y - 1)) 0)))]] : Rows))) ≤ 4294967296
  i1 : ∀ x y, I0 x y → (v18c fn b r) → (v18d fn a0) → (y < (a0.length : Int)) → (0 < y) → I1 x y 0 (x ++ [[D.i (mxI (D.int (gt a0 y.toNat 0)) (D.int (gt x (Int.toNat (y - 1)) 0)))]])
  g16 : ∀ x y, I0 x y → ∀ z u, I1 x y z u → (v18c fn b r) → (v18d fn a0) → (y < (a0.length : Int)) → (0 < y) → (z ≤ y) → pre 52 [[D.l u], [D.i z], [D.i y], [D.i r]]
  g17 : ∀ x y, I0 x y → ∀ z u, I1 x y z u → (v18c fn b r) → (v18d fn a0) → (y < (a0.length : Int)) → (0 < y) → (z ≤ y) → (v18i (v18a fn u z y r b))
  g18 : ∀ x y, I0 x y → ∀ z u, I1 x y z u → (v18c fn b r) → (v18d fn a0) → (y < (a0.length : Int)) → (0 < y) → (z ≤ y) → (0 < (v18a fn u z y r b)) → (r = 0) → R 0 0 = D.l []
  g19 : ∀ x y, I0 x y → ∀ z u, I1 x y z u → (v18c fn b r) → (v18d fn a0) → (y < (a0.length : Int)) → (0 < y) → (z ≤ y) → (0 < (v18a fn u z y r b)) → (r = 0) → R 1 0 = D.i 21
  g20 : ∀ x y, I0 x y → ∀ z u, I1 x y z u → (v18c fn b r) → (v18d fn a0) → (y < (a0.length : Int)) → (0 < y) → (z ≤ y) → (0 < (v18a fn u z y r b)) → (¬ r = 0) → (z = y) → R 0 0 = D.l []
  g21 : ∀ x y, I0 x y → ∀ z u, I1 x y z u → (v18c fn b r) → (v18d fn a0) → (y < (a0.length : Int)) → (0 < y) → (z ≤ y) → (0 < (v18a fn u z y r b)) → (¬ r = 0) → (z = y) → R 1 0 = D.i 21
  g22 : ∀ x y, I0 x y → ∀ z u, I1 x y z u → (v18c fn b r) → (v18d fn a0) → (y < (a0.length : Int)) → (0 < y) → (z ≤ y) → (0 < (v18a fn u z y r b)) → (¬ r = 0) → (¬ z = y) → (0 < (v18a fn u z y r b)) → 0 ≤ y
  g23 : ∀ x y, I0 x y → ∀ z u, I1 x y z u → (v18c fn b r) → (v18d fn a0) → (y < (a0.length : Int)) → (0 < y) → (z ≤ y) → (0 < (v18a fn u z y r b)) → (¬ r = 0) → (¬ z = y) → (0 < (v18a fn u z y r b)) → y < (u.length : Int)
  g24 : ∀ x y, I0 x y → ∀ z u, I1 x y z u → (v18c fn b r) → (v18d fn a0) → (y < (a0.length : Int)) → (0 < y) → (z ≤ y) → (0 < (v18a fn u z y r b)) → (¬ r = 0) → (¬ z = y) → (0 < (v18a fn u z y r b)) → (((Int.toNat y : Nat) : Int)) < (u.length : Int)
  g26 : ∀ x y, I0 x y → ∀ z u, I1 x y z u → (v18c fn b r) → (v18d fn a0) → (y < (a0.length : Int)) → (0 < y) → (z ≤ y) → (0 < (v18a fn u z y r b)) → (¬ r = 0) → (¬ z = y) → (0 < (v18a fn u z y r b)) → (v18i ((v18a fn u z y r b) + r))
  g27 : ∀ x y, I0 x y → ∀ z u, I1 x y z u → (v18c fn b r) → (v18d fn a0) → (y < (a0.length : Int)) → (0 < y) → (z ≤ y) → (0 < (v18a fn u z y r b)) → (¬ r = 0) → (¬ z = y) → (0 < (v18a fn u z y r b)) → (v18i (((v18a fn u z y r b) + r) - 1))
  g28 : ∀ x y, I0 x y → ∀ z u, I1 x y z u → (v18c fn b r) → (v18d fn a0) → (y < (a0.length : Int)) → (0 < y) → (z ≤ y) → (0 < (v18a fn u z y r b)) → (¬ r = 0) → (¬ z = y) → (0 < (v18a fn u z y r b)) → r ≠ 0
  g29 : ∀ x y, I0 x y → ∀ z u, I1 x y z u → (v18c fn b r) → (v18d fn a0) → (y < (a0.length : Int)) → (0 < y) → (z ≤ y) → (0 < (v18a fn u z y r b)) → (¬ r = 0) → (¬ z = y) → (0 < (v18a fn u z y r b)) → (v18i (Int.tdiv (((v18a fn u z y r b) + r) - 1) r))
  g30 : ∀ x y, I0 x y → ∀ z u, I1 x y z u → (v18c fn b r) → (v18d fn a0) → (y < (a0.length : Int)) → (0 < y) → (z ≤ y) → (0 < (v18a fn u z y r b)) → (¬ r = 0) → (¬ z = y) → (0 < (v18a fn u z y r b)) → (v18i (v18e u y fn z r b))
  g34 : ∀ x y, I0 x y → ∀ z u, I1 x y z u → (v18c fn b r) → (v18d fn a0) → (y < (a0.length : Int)) → (0 < y) → (z ≤ y) → (0 < (v18a fn u z y r b)) → (¬ r = 0) → (¬ z = y) → (0 < (v18a fn u z y r b)) → (v18i (z + 1))
  n35 : ∀ x y, I0 x y → ∀ z u, I1 x y z u → (v18c fn b r) → (v18d fn a0) → (y < (a0.length : Int)) → (0 < y) → (z ≤ y) → (0 < (v18a fn u z y r b)) → (¬ r = 0) → (¬ z = y) → (0 < (v18a fn u z y r b)) → I1 x y (z + 1) (List.set u y.toNat [D.i (v18e u y fn z r b)]) ∧ m1 x y (z + 1) (List.set u y.toNat [D.i (v18e u y fn z r b)]) < m1 x y z u
  g36 : ∀ x y, I0 x y → ∀ z u, I1 x y z u → (v18c fn b r) → (v18d fn a0) → (y < (a0.length : Int)) → (0 < y) → (z ≤ y) → (0 < (v18a fn u z y r b)) → (¬ r = 0) → (¬ z = y) → (¬ 0 < (v18a fn u z y r b)) → (v18i (z + 1))
  n37 : ∀ x y, I0 x y → ∀ z u, I1 x y z u → (v18c fn b r) → (v18d fn a0) → (y < (a0.length : Int)) → (0 < y) → (z ≤ y) → (0 < (v18a fn u z y r b)) → (¬ r = 0) → (¬ z = y) → (¬ 0 < (v18a fn u z y r b)) → I1 x y (z + 1) u ∧ m1 x y (z + 1) u < m1 x y z u
  g38 : ∀ x y, I0 x y → ∀ z u, I1 x y z u → (v18c fn b r) → (v18d fn a0) → (y < (a0.length : Int)) → (0 < y) → (z ≤ y) → (¬ 0 < (v18a fn u z y r b)) → (0 < (v18a fn u z y r b)) → 0 ≤ y
  g39 : ∀ x y, I0 x y → ∀ z u, I1 x y z u → (v18c fn b r) → (v18d fn a0) → (y < (a0.length : Int)) → (0 < y) → (z ≤ y) → (¬ 0 < (v18a fn u z y r b)) → (0 < (v18a fn u z y r b)) → y < (u.length : Int)
  g40 : ∀ x y, I0 x y → ∀ z u, I1 x y z u → (v18c fn b r) → (v18d fn a0) → (y < (a0.length : Int)) → (0 < y) → (z ≤ y) → (¬ 0 < (v18a fn u z y r b)) → (0 < (v18a fn u z y r b)) → (((Int.toNat y : Nat) : Int)) < (u.length : Int)
  g42 : ∀ x y, I0 x y → ∀ z u, I1 x y z u → (v18c fn b r) → (v18d fn a0) → (y < (a0.length : Int)) → (0 < y) → (z ≤ y) → (¬ 0 < (v18a fn u z y r b)) → (0 < (v18a fn u z y r b)) → (v18i ((v18a fn u z y r b) + r))
  g43 : ∀ x y, I0 x y → ∀ z u, I1 x y z u → (v18c fn b r) → (v18d fn a0) → (y < (a0.length : Int)) → (0 < y) → (z ≤ y) → (¬ 0 < (v18a fn u z y r b)) → (0 < (v18a fn u z y r b)) → (v18i (((v18a fn u z y r b) + r) - 1))
  g44 : ∀ x y, I0 x y → ∀ z u, I1 x y z u → (v18c fn b r) → (v18d fn a0) → (y < (a0.length : Int)) → (0 < y) → (z ≤ y) → (¬ 0 < (v18a fn u z y r b)) → (0 < (v18a fn u z y r b)) → r ≠ 0
  g45 : ∀ x y, I0 x y → ∀ z u, I1 x y z u → (v18c fn b r) → (v18d fn a0) → (y < (a0.length : Int)) → (0 < y) → (z ≤ y) → (¬ 0 < (v18a fn u z y r b)) → (0 < (v18a fn u z y r b)) → (v18i (Int.tdiv (((v18a fn u z y r b) + r) - 1) r))
  g46 : ∀ x y, I0 x y → ∀ z u, I1 x y z u → (v18c fn b r) → (v18d fn a0) → (y < (a0.length : Int)) → (0 < y) → (z ≤ y) → (¬ 0 < (v18a fn u z y r b)) → (0 < (v18a fn u z y r b)) → (v18i (v18e u y fn z r b))
  g50 : ∀ x y, I0 x y → ∀ z u, I1 x y z u → (v18c fn b r) → (v18d fn a0) → (y < (a0.length : Int)) → (0 < y) → (z ≤ y) → (¬ 0 < (v18a fn u z y r b)) → (0 < (v18a fn u z y r b)) → (v18i (z + 1))
  n51 : ∀ x y, I0 x y → ∀ z u, I1 x y z u → (v18c fn b r) → (v18d fn a0) → (y < (a0.length : Int)) → (0 < y) → (z ≤ y) → (¬ 0 < (v18a fn u z y r b)) → (0 < (v18a fn u z y r b)) → I1 x y (z + 1) (List.set u y.toNat [D.i (v18e u y fn z r b)]) ∧ m1 x y (z + 1) (List.set u y.toNat [D.i (v18e u y fn z r b)]) < m1 x y z u
  g52 : ∀ x y, I0 x y → ∀ z u, I1 x y z u → (v18c fn b r) → (v18d fn a0) → (y < (a0.length : Int)) → (0 < y) → (z ≤ y) → (¬ 0 < (v18a fn u z y r b)) → (¬ 0 < (v18a fn u z y r b)) → (v18i (z + 1))
  n53 : ∀ x y, I0 x y → ∀ z u, I1 x y z u → (v18c fn b r) → (v18d fn a0) → (y < (a0.length : Int)) → (0 < y) → (z ≤ y) → (¬ 0 < (v18a fn u z y r b)) → (¬ 0 < (v18a fn u z y r b)) → I1 x y (z + 1) u ∧ m1 x y (z + 1) u < m1 x y z u
  g54 : ∀ x y, I0 x y → ∀ z u, I1 x y z u → (v18c fn b r) → (v18d fn a0) → (y < (a0.length : Int)) → (0 < y) → (¬ z ≤ y) → (v18i (y + 1))
  n55 : ∀ x y, I0 x y → ∀ z u, I1 x y z u → (v18c fn b r) → (v18d fn a0) → (y < (a0.length : Int)) → (0 < y) → (¬ z ≤ y) → I0 u (y + 1) ∧ m0 u (y + 1) < m0 x y
  g56 : ∀ x y, I0 x y → (v18c fn b r) → (v18d fn a0) → (y < (a0.length : Int)) → (¬ 0 < y) → (x.length + (List.length ([[D.i (D.int (gt a0 y.toNat 0))]] : Rows))) * 8 ≤ 4294967296 ∧ (x.length + (List.length ([[D.i (D.int (gt a0 y.toNat 0))]] : Rows))) ≤ 4294967296
  i2 : ∀ x y, I0 x y → (v18c fn b r) → (v18d fn a0) → (y < (a0.length : Int)) → (¬ 0 < y) → I2 x y 0 (x ++ [[D.i (D.int (gt a0 y.toNat 0))]])
  g58 : ∀ x y, I0 x y → ∀ v w, I2 x y v w → (v18c fn b r) → (v18d fn a0) → (y < (a0.length : Int)) → (¬ 0 < y) → (v ≤ y) → pre 52 [[D.l w], [D.i v], [D.i y], [D.i r]]
  g59 : ∀ x y, I0 x y → ∀ v w, I2 x y v w → (v18c fn b r) → (v18d fn a0) → (y < (a0.length : Int)) → (¬ 0 < y) → (v ≤ y) → (v18i (v18b fn w v y r b))
  g60 : ∀ x y, I0 x y → ∀ v w, I2 x y v w → (v18c fn b r) → (v18d fn a0) → (y < (a0.length : Int)) → (¬ 0 < y) → (v ≤ y) → (0 < (v18b fn w v y r b)) → (r = 0) → R 0 0 = D.l []
  g61 : ∀ x y, I0 x y → ∀ v w, I2 x y v w → (v18c fn b r) → (v18d fn a0) → (y < (a0.length : Int)) → (¬ 0 < y) → (v ≤ y) → (0 < (v18b fn w v y r b)) → (r = 0) → R 1 0 = D.i 21
  g62 : ∀ x y, I0 x y → ∀ v w, I2 x y v w → (v18c fn b r) → (v18d fn a0) → (y < (a0.length : Int)) → (¬ 0 < y) → (v ≤ y) → (0 < (v18b fn w v y r b)) → (¬ r = 0) → (v = y) → R 0 0 = D.l []
  g63 : ∀ x y, I0 x y → ∀ v w, I2 x y v w → (v18c fn b r) → (v18d fn a0) → (y < (a0.length : Int)) → (¬ 0 < y) → (v ≤ y) → (0 < (v18b fn w v y r b)) → (¬ r = 0) → (v = y) → R 1 0 = D.i 21
  g64 : ∀ x y, I0 x y → ∀ v w, I2 x y v w → (v18c fn b r) → (v18d fn a0) → (y < (a0.length : Int)) → (¬ 0 < y) → (v ≤ y) → (0 < (v18b fn w v y r b)) → (¬ r = 0) → (¬ v = y) → (0 < (v18b fn w v y r b)) → 0 ≤ y
  g65 : ∀ x y, I0 x y → ∀ v w, I2 x y v w → (v18c fn b r) → (v18d fn a0) → (y < (a0.length : Int)) → (¬ 0 < y) → (v ≤ y) → (0 < (v18b fn w v y r b)) → (¬ r = 0) → (¬ v = y) → (0 < (v18b fn w v y r b)) → y < (w.length : Int)
  g66 : ∀ x y, I0 x y → ∀ v w, I2 x y v w → (v18c fn b r) → (v18d fn a0) → (y < (a0.length : Int)) → (¬ 0 < y) → (v ≤ y) → (0 < (v18b fn w v y r b)) → (¬ r = 0) → (¬ v = y) → (0 < (v18b fn w v y r b)) → (((Int.toNat y : Nat) : Int)) < (w.length : Int)
  g68 : ∀ x y, I0 x y → ∀ v w, I2 x y v w → (v18c fn b r) → (v18d fn a0) → (y < (a0.length : Int)) → (¬ 0 < y) → (v ≤ y) → (0 < (v18b fn w v y r b)) → (¬ r = 0) → (¬ v = y) → (0 < (v18b fn w v y r b)) → (v18i ((v18b fn w v y r b) + r))
  g69 : ∀ x y, I0 x y → ∀ v w, I2 x y v w → (v18c fn b r) → (v18d fn a0) → (y < (a0.length : Int)) → (¬ 0 < y) → (v ≤ y) → (0 < (v18b fn w v y r b)) → (¬ r = 0) → (¬ v = y) → (0 < (v18b fn w v y r b)) → (v18i (((v18b fn w v y r b) + r) - 1))
  g70 : ∀ x y, I0 x y → ∀ v w, I2 x y v w → (v18c fn b r) → (v18d fn a0) → (y < (a0.length : Int)) → (¬ 0 < y) → (v ≤ y) → (0 < (v18b fn w v y r b)) → (¬ r = 0) → (¬ v = y) → (0 < (v18b fn w v y r b)) → r ≠ 0
  g71 : ∀ x y, I0 x y → ∀ v w, I2 x y v w → (v18c fn b r) → (v18d fn a0) → (y < (a0.length : Int)) → (¬ 0 < y) → (v ≤ y) → (0 < (v18b fn w v y r b)) → (¬ r = 0) → (¬ v = y) → (0 < (v18b fn w v y r b)) → (v18i (Int.tdiv (((v18b fn w v y r b) + r) - 1) r))
  g72 : ∀ x y, I0 x y → ∀ v w, I2 x y v w → (v18c fn b r) → (v18d fn a0) → (y < (a0.length : Int)) → (¬ 0 < y) → (v ≤ y) → (0 < (v18b fn w v y r b)) → (¬ r = 0) → (¬ v = y) → (0 < (v18b fn w v y r b)) → (v18i (v18f w y fn v r b))
  g76 : ∀ x y, I0 x y → ∀ v w, I2 x y v w → (v18c fn b r) → (v18d fn a0) → (y < (a0.length : Int)) → (¬ 0 < y) → (v ≤ y) → (0 < (v18b fn w v y r b)) → (¬ r = 0) → (¬ v = y) → (0 < (v18b fn w v y r b)) → (v18i (v + 1))
  n77 : ∀ x y, I0 x y → ∀ v w, I2 x y v w → (v18c fn b r) → (v18d fn a0) → (y < (a0.length : Int)) → (¬ 0 < y) → (v ≤ y) → (0 < (v18b fn w v y r b)) → (¬ r = 0) → (¬ v = y) → (0 < (v18b fn w v y r b)) → I2 x y (v + 1) (List.set w y.toNat [D.i (v18f w y fn v r b)]) ∧ m2 x y (v + 1) (List.set w y.toNat [D.i (v18f w y fn v r b)]) < m2 x y v w
  g78 : ∀ x y, I0 x y → ∀ v w, I2 x y v w → (v18c fn b r) → (v18d fn a0) → (y < (a0.length : Int)) → (¬ 0 < y) → (v ≤ y) → (0 < (v18b fn w v y r b)) → (¬ r = 0) → (¬ v = y) → (¬ 0 < (v18b fn w v y r b)) → (v18i (v + 1))
  n79 : ∀ x y, I0 x y → ∀ v w, I2 x y v w → (v18c fn b r) → (v18d fn a0) → (y < (a0.length : Int)) → (¬ 0 < y) → (v ≤ y) → (0 < (v18b fn w v y r b)) → (¬ r = 0) → (¬ v = y) → (¬ 0 < (v18b fn w v y r b)) → I2 x y (v + 1) w ∧ m2 x y (v + 1) w < m2 x y v w
  g80 : ∀ x y, I0 x y → ∀ v w, I2 x y v w → (v18c fn b r) → (v18d fn a0) → (y < (a0.length : Int)) → (¬ 0 < y) → (v ≤ y) → (¬ 0 < (v18b fn w v y r b)) → (0 < (v18b fn w v y r b)) → 0 ≤ y
  g81 : ∀ x y, I0 x y → ∀ v w, I2 x y v w → (v18c fn b r) → (v18d fn a0) → (y < (a0.length : Int)) → (¬ 0 < y) → (v ≤ y) → (¬ 0 < (v18b fn w v y r b)) → (0 < (v18b fn w v y r b)) → y < (w.length : Int)
  g82 : ∀ x y, I0 x y → ∀ v w, I2 x y v w → (v18c fn b r) → (v18d fn a0) → (y < (a0.length : Int)) → (¬ 0 < y) → (v ≤ y) → (¬ 0 < (v18b fn w v y r b)) → (0 < (v18b fn w v y r b)) → (((Int.toNat y : Nat) : Int)) < (w.length : Int)
  g84 : ∀ x y, I0 x y → ∀ v w, I2 x y v w → (v18c fn b r) → (v18d fn a0) → (y < (a0.length : Int)) → (¬ 0 < y) → (v ≤ y) → (¬ 0 < (v18b fn w v y r b)) → (0 < (v18b fn w v y r b)) → (v18i ((v18b fn w v y r b) + r))
  g85 : ∀ x y, I0 x y → ∀ v w, I2 x y v w → (v18c fn b r) → (v18d fn a0) → (y < (a0.length : Int)) → (¬ 0 < y) → (v ≤ y) → (¬ 0 < (v18b fn w v y r b)) → (0 < (v18b fn w v y r b)) → (v18i (((v18b fn w v y r b) + r) - 1))
  g86 : ∀ x y, I0 x y → ∀ v w, I2 x y v w → (v18c fn b r) → (v18d fn a0) → (y < (a0.length : Int)) → (¬ 0 < y) → (v ≤ y) → (¬ 0 < (v18b fn w v y r b)) → (0 < (v18b fn w v y r b)) → r ≠ 0
  g87 : ∀ x y, I0 x y → ∀ v w, I2 x y v w → (v18c fn b r) → (v18d fn a0) → (y < (a0.length : Int)) → (¬ 0 < y) → (v ≤ y) → (¬ 0 < (v18b fn w v y r b)) → (0 < (v18b fn w v y r b)) → (v18i (Int.tdiv (((v18b fn w v y r b) + r) - 1) r))
  g88 : ∀ x y, I0 x y → ∀ v w, I2 x y v w → (v18c fn b r) → (v18d fn a0) → (y < (a0.length : Int)) → (¬ 0 < y) → (v ≤ y) → (¬ 0 < (v18b fn w v y r b)) → (0 < (v18b fn w v y r b)) → (v18i (v18f w y fn v r b))
  g92 : ∀ x y, I0 x y → ∀ v w, I2 x y v w → (v18c fn b r) → (v18d fn a0) → (y < (a0.length : Int)) → (¬ 0 < y) → (v ≤ y) → (¬ 0 < (v18b fn w v y r b)) → (0 < (v18b fn w v y r b)) → (v18i (v + 1))
  n93 : ∀ x y, I0 x y → ∀ v w, I2 x y v w → (v18c fn b r) → (v18d fn a0) → (y < (a0.length : Int)) → (¬ 0 < y) → (v ≤ y) → (¬ 0 < (v18b fn w v y r b)) → (0 < (v18b fn w v y r b)) → I2 x y (v + 1) (List.set w y.toNat [D.i (v18f w y fn v r b)]) ∧ m2 x y (v + 1) (List.set w y.toNat [D.i (v18f w y fn v r b)]) < m2 x y v w
  g94 : ∀ x y, I0 x y → ∀ v w, I2 x y v w → (v18c fn b r) → (v18d fn a0) → (y < (a0.length : Int)) → (¬ 0 < y) → (v ≤ y) → (¬ 0 < (v18b fn w v y r b)) → (¬ 0 < (v18b fn w v y r b)) → (v18i (v + 1))
  n95 : ∀ x y, I0 x y → ∀ v w, I2 x y v w → (v18c fn b r) → (v18d fn a0) → (y < (a0.length : Int)) → (¬ 0 < y) → (v ≤ y) → (¬ 0 < (v18b fn w v y r b)) → (¬ 0 < (v18b fn w v y r b)) → I2 x y (v + 1) w ∧ m2 x y (v + 1) w < m2 x y v w
  g96 : ∀ x y, I0 x y → ∀ v w, I2 x y v w → (v18c fn b r) → (v18d fn a0) → (y < (a0.length : Int)) → (¬ 0 < y) → (¬ v ≤ y) → (v18i (y + 1))
  n97 : ∀ x y, I0 x y → ∀ v w, I2 x y v w → (v18c fn b r) → (v18d fn a0) → (y < (a0.length : Int)) → (¬ 0 < y) → (¬ v ≤ y) → I0 w (y + 1) ∧ m0 w (y + 1) < m0 x y
  g98 : ∀ x y, I0 x y → (v18c fn b r) → (v18d fn a0) → (¬ y < (a0.length : Int)) → R 0 0 = D.l x
  g99 : ∀ x y, I0 x y → (v18c fn b r) → (v18d fn a0) → (¬ y < (a0.length : Int)) → R 1 0 = D.i 0
end HX

namespace HX
open Go Go.Proofs CX

noncomputable def shE (l : Rows) (b r : Int) : Int := if crE b r = 0 then if tmE l = 0 then (match shp l b r l.length with | none => 21 | some _ => 0) else tmE l else crE b r
noncomputable def shL (l : Rows) (b r : Int) : Rows := if crE b r = 0 then if tmE l = 0 then (match shp l b r l.length with | none => [] | some (o, _, _) => o) else [] else []
theorem sh_none {l : Rows} {b r : Int} (hB : crE b r = 0) (hT : tmE l = 0) {q : Nat} (hq : q < l.length) (h : shp l b r (q + 1) = none) : shE l b r = 21 ∧ shL l b r = [] := by
  rw [shE, shL, if_pos hB, if_pos hT, if_pos hB, if_pos hT, shp_none h l.length (by omega)]
  exact ⟨rfl, rfl⟩
theorem sh_some {l : Rows} {b r : Int} (hB : crE b r = 0) (hT : tmE l = 0) {o : Rows} {lv la : Int} (h : shp l b r l.length = some (o, lv, la)) : shE l b r = 0 ∧ shL l b r = o := by
  rw [shE, shL, if_pos hB, if_pos hT, if_pos hB, if_pos hT, h]
  exact ⟨rfl, rfl⟩
theorem sh_c {l : Rows} {b r : Int} (h : ¬ crE b r = 0) : shE l b r = crE b r ∧ shL l b r = [] := by
  rw [shE, shL, if_neg h, if_neg h]
  exact ⟨rfl, rfl⟩
theorem sh_t {l : Rows} {b r : Int} (hB : crE b r = 0) (h : ¬ tmE l = 0) : shE l b r = tmE l ∧ shL l b r = [] := by
  rw [shE, shL, if_pos hB, if_neg h, if_pos hB, if_neg h]
  exact ⟨rfl, rfl⟩

theorem law17 {pre : Nat → List (List D) → Prop} {fn : Nat → List (List D) → Nat → Nat → D} (hp13 : ∀ x, pre 13 x) (hf13 : ∀ a b, fn 13 [[.i a, .i b]] 0 0 = .i (crE a b))
    (hp49 : ∀ x, pre 49 x) (hf49 : ∀ l, fn 49 [[.l l]] 0 0 = .i (tmE l))
    {a0 : Rows} {b r : Int} {R : Nat → Nat → D} (hR0 : R 0 0 = .l (shL a0 b r)) (hR1 : R 1 0 = .i (shE a0 b r)) :
    V17 pre fn a0 b r R (fun out lv la i => ∃ q : Nat, i = q ∧ q ≤ a0.length ∧ shp a0 b r q = some (out, lv, la)) (fun _ _ _ i => (a0.length - i).toNat) := by
  have hi : ∀ n : Int, (D.i n).int = n := fun _ => rfl
  constructor
  all_goals (try simp only [v17a, v17b, v17c, v17d, v17e, v17i, hf13, hf49, hi])
  case g0 => exact hp13 _
  case g3 => exact fun _ => hp49 _
  case g1 => intro h; rw [hR0, (sh_c h).2]
  case g2 => intro h; rw [hR1, (sh_c h).1]
  case g4 => intro h1 h2; rw [hR0, (sh_t h1 h2).2]
  case g5 => intro h1 h2; rw [hR1, (sh_t h1 h2).1]
  case i0 => exact fun _ _ => ⟨0, rfl, by omega, rfl⟩
  all_goals (intro out lv la i hI hB hT hx; obtain ⟨q, hx', hq, hs⟩ := hI; subst hx'; obtain ⟨hl, hin, hsr⟩ := tmE_0 hT; have iv := shp_inv hB hin q hq hs; have hc := crE_0.1 hB; (try simp only [gt_tI, Int.toNat_natCast]))
  case g36 =>
    rw [show q = a0.length by omega] at hs
    rw [hR0, (sh_some hB hT hs).2]
  case g37 =>
    rw [show q = a0.length by omega] at hs
    rw [hR1, (sh_some hB hT hs).1]
  case n31 =>
    intro ho h1 h2
    refine ⟨⟨q + 1, by omega, by omega, ?_⟩, by omega⟩
    simp only [shp, hs, stp]
    rw [if_pos ho, if_neg (by omega)]
  case n35 =>
    intro ho
    refine ⟨⟨q + 1, by omega, by omega, ?_⟩, by omega⟩
    simp only [shp, hs, stp]
    rw [if_neg ho]
  case g16 | g17 =>
    intro ho h1
    have hn : shp a0 b r (q + 1) = none := by
      simp only [shp, hs, stp]
      rw [if_pos ho, if_pos (Or.inl h1)]
    first | rw [hR0, (sh_none hB hT (by omega) hn).2] | rw [hR1, (sh_none hB hT (by omega) hn).1]
  case g19 | g20 =>
    intro ho h1 h2
    have hn : shp a0 b r (q + 1) = none := by
      simp only [shp, hs, stp]
      rw [if_pos ho, if_pos (Or.inr h2)]
    first | rw [hR0, (sh_none hB hT (by omega) hn).2] | rw [hR1, (sh_none hB hT (by omega) hn).1]
  all_goals
    have hu := hin q (by omega)
    have hlen := iv.len
    have k1 := iv.lv0
    have k2 := iv.lv1
    have k3 := iv.la0
    have k4 := iv.la1
    clear iv hs hsr hR0 hR1 hp13 hf13 hp49 hf49
    have ht : la ≤ mxI (tI a0 q) la ∧ mxI (tI a0 q) la ≤ la + 10000 := by rw [mxI_eq]; omega
    generalize mxI (tI a0 q) la = t at ht ⊢
    have hm := mulN hc.2.1 hc.2.2 (w := t - la) (N := 10000) (by omega) (by omega)
    (try simp only [mxI_eq, List.length_cons, List.length_nil])
  all_goals (try omega)
  all_goals
    intro ho h1 h2
    have hw := wt_ok (r := r) (by omega) ho
    have h0 := ho
    simp only [wtE, mxI_eq] at hw
    clear ho
    omega

theorem Inn.bd {l : Rows} {B r : Int} (hB : crE B r = 0) (hi : inT l) (hl : (l.length : Int) ≤ 1024) {q : Nat} (hq : q < l.length) {out arr : Rows} {p : Nat} {T lv la : Int} (h : Inn l B r q out p arr T lv la) (hp : p ≤ q) :
    okN arr p q r ∧ arr.length = q + 1 ∧ tI arr q = T ∧ (0 ≤ T ∧ T ≤ 100000000) ∧ -2000000000000 ≤ ndE arr p q r ∧ ndE arr p q r ≤ 2000000000000 := by
  have hc := crE_0.1 hB
  have iv := shp_inv hB hi q (by omega) h.sh
  have hlen := iv.len
  have k3 := iv.la0
  have k4 := iv.la1
  have hu := hi q hq
  have ht0 := h.t0
  have ht1 := h.t1
  have hT : 0 ≤ T ∧ T ≤ 100000000 := by rw [mxI_eq] at ht0 ht1; omega
  have hal : arr.length = q + 1 := by rw [h.eq]; simp [hlen]
  have haq : tI arr q = T := by rw [h.eq, ← hlen]; exact tI_new
  have hap : 0 ≤ tI arr p ∧ tI arr p ≤ 100000000 := by
    by_cases e : p = q
    · rw [e, haq]; exact hT
    · have := iv.rng p (by omega)
      rw [h.eq, tI_old (i := p) (by omega)]
      omega
  have m1 := mulN hc.2.1 hc.2.2 hT.1 hT.2
  have m2 := mulN hc.2.1 hc.2.2 hap.1 hap.2
  refine ⟨⟨by omega, by omega, hc.2, ?_, ?_⟩, hal, haq, hT, ?_⟩
  · simp only [Int.toNat_natCast]; omega
  · simp only [Int.toNat_natCast]; omega
  · rw [ndE_nat, haq]
    simp only [Int.mul_sub, Int.mul_add, Int.mul_one]
    omega

theorem law18 {pre : Nat → List (List D) → Prop} {fn : Nat → List (List D) → Nat → Nat → D} (hp14 : ∀ x, pre 14 x) (hf14 : ∀ a b, fn 14 [[.i a, .i b]] 0 0 = .i (crE a b))
    (hp51 : ∀ x, pre 51 x) (hf51 : ∀ l, fn 51 [[.l l]] 0 0 = .i (tmE l))
    (hp52 : ∀ l i k r, okN l i k r → pre 52 [[.l l], [.i i], [.i k], [.i r]]) (hf52 : ∀ l i k r, fn 52 [[.l l], [.i i], [.i k], [.i r]] 0 0 = .i (ndE l i k r))
    {a0 : Rows} {b r : Int} {R : Nat → Nat → D} (hR0 : R 0 0 = .l (shL a0 b r)) (hR1 : R 1 0 = .i (shE a0 b r)) :
    V18 pre fn a0 b r R (fun out i => ∃ q : Nat, i = q ∧ q ≤ a0.length ∧ ∃ lv la, shp a0 b r q = some (out, lv, la)) (fun _ i => (a0.length - i).toNat)
      (fun out i k arr => ∃ q p : Nat, ∃ T lv la, i = q ∧ k = p ∧ p ≤ q + 1 ∧ Inn a0 b r q out p arr T lv la) (fun _ i k _ => (i + 1 - k).toNat)
      (fun out i k arr => ∃ q p : Nat, ∃ T lv la, i = q ∧ k = p ∧ p ≤ q + 1 ∧ Inn a0 b r q out p arr T lv la) (fun _ i k _ => (i + 1 - k).toNat) := by
  have hi : ∀ n : Int, (D.i n).int = n := fun _ => rfl
  constructor
  all_goals (try simp only [v18a, v18b, v18c, v18d, v18e, v18f, v18i, hf14, hf51, hf52, hi])
  case g0 => exact hp14 _
  case g3 => exact fun _ => hp51 _
  case g1 => intro h; rw [hR0, (sh_c h).2]
  case g2 => intro h; rw [hR1, (sh_c h).1]
  case g4 => intro h1 h2; rw [hR0, (sh_t h1 h2).2]
  case g5 => intro h1 h2; rw [hR1, (sh_t h1 h2).1]
  case i0 => exact fun _ _ => ⟨0, rfl, by omega, 0, 0, rfl⟩
  all_goals (intro out i hI; obtain ⟨q, hx, hq, lv, la, hs⟩ := hI; subst hx)
  case g98 =>
    intro hB hT hx
    rw [show q = a0.length by omega] at hs
    rw [hR0, (sh_some hB hT hs).2]
  case g99 =>
    intro hB hT hx
    rw [show q = a0.length by omega] at hs
    rw [hR1, (sh_some hB hT hs).1]
  case g7 | g8 | g9 | g10 | g11 => intro hB hT; have := (tmE_0 hT).1; intros; (try simp only [Int.toNat_natCast]); omega
  case g12 | g13 | g14 | g56 =>
    intro hB hT hx h0
    obtain ⟨hl, hin, hsr⟩ := tmE_0 hT
    have hlen := (shp_inv hB hin q hq hs).len
    (try simp only [List.length_cons, List.length_nil])
    omega
  case i1 =>
    intro hB hT hx h0
    obtain ⟨hl, hin, hsr⟩ := tmE_0 hT
    have hla := (shp_inv hB hin q hq hs).la_ (q - 1) (by omega)
    refine ⟨q, 0, mxI (tI a0 q) la, lv, la, rfl, rfl, by omega, ?_⟩
    simp only [gt_tI, Int.toNat_natCast]
    rw [show ((q : Int) - 1).toNat = q - 1 by omega, ← hla]
    exact inn_init hs
  case i2 =>
    intro hB hT hx h0
    obtain ⟨hl, hin, hsr⟩ := tmE_0 hT
    have hz := (shp_inv hB hin q hq hs).z (by omega)
    have hu := hin q (by omega)
    have := inn_init hs
    rw [show mxI (tI a0 q) la = tI a0 q by rw [mxI_eq]; omega] at this
    exact ⟨q, 0, _, lv, la, rfl, rfl, by omega, this⟩
  all_goals (intro k arr hI2; obtain ⟨q', p, T, lv', la', hx, hy, hp, h⟩ := hI2; subst hy; obtain rfl : q = q' := (by omega); intro hB hT hx1; obtain ⟨hl, hin, hsr⟩ := tmE_0 hT; intros; (try simp only [gt_tI, Int.toNat_natCast]))
  case n55 | n97 =>
    obtain rfl : p = q + 1 := by omega
    obtain ⟨lv2, la2, e⟩ := h.fin hB hin (by omega)
    exact ⟨⟨q + 1, by omega, by omega, lv2, la2, e⟩, by omega⟩
  case g54 | g96 => omega
  all_goals have bd := h.bd hB hin hl (by omega) (by omega)
  all_goals have hc' := crE_0.1 hB
  case g16 | g58 => exact hp52 _ _ _ _ bd.1
  case g18 | g19 | g20 | g21 | g60 | g61 | g62 | g63 =>
    have hn := h.err hB hin (by omega) (by omega) (by assumption) (by omega)
    first | rw [hR0, (sh_none hB hT (by omega) hn).2] | rw [hR1, (sh_none hB hT (by omega) hn).1]
  case n53 | n95 => exact ⟨⟨q, p + 1, T, lv', la', rfl, by omega, by omega, h.skip hB hin (by omega) (by omega) (by assumption)⟩, by omega⟩
  case n35 | n77 => exact ⟨⟨q, p + 1, _, lv', la', rfl, by omega, by omega, h.raise hB hin (by omega) (by omega) (by assumption) (by assumption) rfl⟩, by omega⟩
  case g26 | g27 | g28 | g29 | g30 | g68 | g69 | g70 | g71 | g72 =>
    have hc := crE_0.1 hB
    have bg := h.big hB hin (by omega) (by omega) (by assumption) (by assumption) rfl
    have hw := wt_ok (r := r) (ov := ndE arr p q r - b) (by omega) (by assumption)
    have hm := h.t1
    obtain ⟨_, _, b3, b4, b5⟩ := bd
    (try rw [b3])
    simp only [wtE] at hw
    omega
  all_goals omega

theorem law3 {pre : Nat → List (List D) → Prop} {fn : Nat → List (List D) → Nat → Nat → D} (hp9 : pre 9 []) (hf9 : fn 9 [] 0 0 = .b true)
    (hp11 : ∀ x, pre 11 x) (hf11 : ∀ a b, fn 11 [[.i a, .i b]] 0 0 = .i a ∧ fn 11 [[.i a, .i b]] 0 1 = .i b)
    (hp13 : ∀ x, pre 13 x) (hf13 : ∀ a b, fn 13 [[.i a, .i b]] 0 0 = .i (crE a b)) (hp14 : ∀ x, pre 14 x) (hf14 : ∀ a b, fn 14 [[.i a, .i b]] 0 0 = .i (crE a b))
    (hp10 : ∀ x, pre 10 x) (hf10 : ∀ l b r, fn 10 [[.l l], [.i b, .i r]] 0 0 = .b (kpB l b r) ∧ fn 10 [[.l l], [.i b, .i r]] 1 0 = .i (kpE l b r))
    (hp12 : ∀ x, pre 12 x) (hf12 : ∀ l b r, fn 12 [[.l l], [.i b, .i r]] 0 0 = .b (kpB l b r) ∧ fn 12 [[.l l], [.i b, .i r]] 1 0 = .i (kpE l b r))
    (hp15 : ∀ x, pre 15 x) (hf15 : ∀ l r, fn 15 [[.l l], [.i r]] 0 0 = .i (buB l r) ∧ fn 15 [[.l l], [.i r]] 1 0 = .i (buE l r))
    (hp16 : ∀ x, pre 16 x) (hf16 : ∀ l r, fn 16 [[.l l], [.i r]] 0 0 = .i (buB l r) ∧ fn 16 [[.l l], [.i r]] 1 0 = .i (buE l r))
    (hp17 : ∀ x, pre 17 x) (hf17 : ∀ l b r, fn 17 [[.l l], [.i b, .i r]] 0 0 = .l (shL l b r) ∧ fn 17 [[.l l], [.i b, .i r]] 1 0 = .i (shE l b r))
    (hp18 : ∀ x, pre 18 x) (hf18 : ∀ l b r, fn 18 [[.l l], [.i b, .i r]] 0 0 = .l (shL l b r) ∧ fn 18 [[.l l], [.i b, .i r]] 1 0 = .i (shE l b r))
    (hp19 : ∀ l, pre 19 [[.l l], [.l l]]) (hf19 : ∀ x, fn 19 x 0 0 = .b true)
    {a0 : Rows} {b r c : Int} {R : Nat → Nat → D} (hR : R 0 0 = .b true) : V3 pre fn a0 b r c R := by
  have hi : ∀ n : Int, (D.i n).int = n := fun _ => rfl
  have hb : ∀ n : Bool, (D.b n).boo = n := fun _ => rfl
  have hrw : ∀ n : Rows, (D.l n).rows = n := fun _ => rfl
  constructor
  all_goals (try simp only [v3a, v3b, v3c, v3d, v3e, v3f, v3g, hf9, hf11, hf13, hf14, hf10, hf12, hf15, hf16, hf17, hf18, hf19, hi, hb, hrw])
  all_goals intros
  all_goals (first | exact hR | exact hp9 | exact hp11 _ | exact hp13 _ | exact hp14 _ | exact hp10 _ | exact hp12 _ | exact hp15 _ | exact hp16 _ | exact hp17 _ | exact hp18 _ | exact hp19 _ | contradiction | (exfalso; simp_all))

theorem law19' {a0 a1 : Rows} (h : a1 = a0) (hlen : a0.length ≤ 9223372036854775807) {R : Nat → Nat → D} (hR : R 0 0 = .b true) :
    V19 a0 a1 R (fun _ i => ∃ q : Nat, i = q ∧ q ≤ a0.length) (fun _ i => (a0.length - i).toNat) := by
  subst h
  exact law19 hlen hR
end HX

namespace HX
open Go Go.Proofs CX
set_option maxHeartbeats 4000000 in
set_option maxRecDepth 100000 in
theorem walk11 {ro A pre fn} (hE : EnvOk ⟨A, (cxE ro), ksF, sigL [], pre, fn⟩) {P : List (List D) → Prop} {res : List (List D) → Nat → Nat → D}
    (hv : ∀ (a0_0 : Int) (a0_1 : Int), P [[.i a0_0, .i a0_1]] → V11 a0_0 a0_1 (res [[.i a0_0, .i a0_1]]) ) :
    PureC (cxE ro) 11 ⟨[(true, [.int .i64, .int .i64])], [(true, [.int .i64, .int .i64])], false⟩ P res := by
  have hA := hE.A
  simp only [] at hA
  have hinl : ∀ f fn, inlL [] f = some fn → (cxE ro).fn f = some fn ∧ (cxE ro).ext f = none := Inls.ok (by repeat (first | exact .nil | refine .cons rfl rfl ?_))
  refine PureC.of_vc hE hinl 6 (f := 11) (fn := Tryz.f11) ⟨rfl, rfl⟩ ?_
  intro a0_0 a0_1 hP
  obtain ⟨R, hR⟩ : ∃ R, res [[.i a0_0, .i a0_1]] = R := ⟨_, rfl⟩
  rw [hR]
  have hV := hv a0_0 a0_1  hP
  rw [hR] at hV
  clear hR hP hv
  cbv
  repeat' (first | (refine Br.mk (fun _ => ?_) (fun _ => ?_) <;> cbv) | (refine NilB.mk (fun _ => ?_) ?_ <;> cbv) | refine And.intro ?_ ?_ | exact True.intro)
  · subst hA; exact hV.g0
  · subst hA; exact hV.g1
end HX
