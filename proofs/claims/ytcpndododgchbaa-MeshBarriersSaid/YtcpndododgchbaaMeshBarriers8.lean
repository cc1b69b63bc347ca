/-
  Texts of the executors: HxTab, HxC, HxLib, V7, W7, HxEnv, CxClose, HxBase, HxClose, HxOwn, HxCtr, V83, V82, V40, V21, V12, V17, V18, V39, MbB, MbC, MtL, MrD, MrL, W82, W83, MrRec, W17, W18, W39.
-/
import Derived.Test.YtcpndododgchbaaMeshBarriers7
import Derived.WalkKit
import Derived.ProofKit
import Derived.JoinedCond
import Derived.RowKit3
import Derived.ChangeArms
import Derived.ChangeCalls
import Derived.WideKeyArgs
set_option linter.all false
namespace HX
open Go Go.Proofs

noncomputable def tyB : BT CX.Ty := (.n (.n (.n (.n (.n (.n (.n (.n .e 1 CX.ty1 .e) 2 CX.ty2 (.n .e 3 CX.ty3 .e)) 4 CX.ty4 (.n (.n .e 5 CX.ty5 .e) 6 CX.ty6 .e)) 7 CX.ty7 (.n (.n (.n .e 8 CX.ty8 .e) 9 CX.ty9 (.n .e 10 CX.ty10 .e)) 11 CX.ty11 (.n (.n .e 12 CX.ty12 .e) 13 CX.ty13 .e))) 14 CX.ty14 (.n (.n (.n (.n .e 15 CX.ty15 .e) 16 CX.ty16 (.n .e 17 CX.ty17 .e)) 18 CX.ty18 (.n (.n .e 19 CX.ty19 .e) 20 CX.ty20 .e)) 21 CX.ty21 (.n (.n (.n .e 22 CX.ty22 .e) 23 CX.ty23 .e) 24 CX.ty24 (.n (.n .e 25 CX.ty25 .e) 26 CX.ty26 .e)))) 27 CX.ty27 (.n (.n (.n (.n (.n .e 28 CX.ty28 .e) 30 CX.ty30 (.n .e 31 CX.ty31 .e)) 32 CX.ty32 (.n (.n .e 33 CX.ty33 .e) 35 CX.ty35 .e)) 36 CX.ty36 (.n (.n (.n .e 37 CX.ty37 .e) 38 CX.ty38 (.n .e 39 CX.ty39 .e)) 40 CX.ty40 (.n (.n .e 41 CX.ty41 .e) 42 CX.ty42 .e))) 43 CX.ty43 (.n (.n (.n (.n .e 44 CX.ty44 .e) 46 CX.ty46 (.n .e 47 CX.ty47 .e)) 48 CX.ty48 (.n (.n .e 49 CX.ty49 .e) 51 CX.ty51 .e)) 52 CX.ty52 (.n (.n (.n .e 53 CX.ty53 .e) 54 CX.ty54 .e) 55 CX.ty55 (.n (.n .e 57 CX.ty57 .e) 58 CX.ty58 .e))))) 60 CX.ty60 (.n (.n (.n (.n (.n (.n .e 62 CX.ty62 .e) 63 CX.ty63 (.n .e 64 CX.ty64 .e)) 65 CX.ty65 (.n (.n .e 66 CX.ty66 .e) 67 CX.ty67 .e)) 68 CX.ty68 (.n (.n (.n .e 69 CX.ty69 .e) 70 CX.ty70 (.n .e 71 CX.ty71 .e)) 72 CX.ty72 (.n (.n .e 73 CX.ty73 .e) 74 CX.ty74 .e))) 76 CX.ty76 (.n (.n (.n (.n .e 77 CX.ty77 .e) 78 CX.ty78 (.n .e 79 CX.ty79 .e)) 80 CX.ty80 (.n (.n .e 81 CX.ty81 .e) 83 CX.ty83 .e)) 84 CX.ty84 (.n (.n (.n .e 85 CX.ty85 .e) 86 CX.ty86 .e) 87 CX.ty87 (.n (.n .e 88 CX.ty88 .e) 89 CX.ty89 .e)))) 90 CX.ty90 (.n (.n (.n (.n (.n .e 91 CX.ty91 .e) 92 CX.ty92 (.n .e 93 CX.ty93 .e)) 94 CX.ty94 (.n (.n .e 95 CX.ty95 .e) 96 CX.ty96 .e)) 97 CX.ty97 (.n (.n (.n .e 98 CX.ty98 .e) 99 CX.ty99 .e) 101 CX.ty101 (.n (.n .e 102 CX.ty102 .e) 103 CX.ty103 .e))) 104 CX.ty104 (.n (.n (.n (.n .e 105 CX.ty105 .e) 106 CX.ty106 (.n .e 107 CX.ty107 .e)) 108 CX.ty108 (.n (.n .e 109 CX.ty109 .e) 110 CX.ty110 .e)) 112 CX.ty112 (.n (.n (.n .e 113 CX.ty113 .e) 114 CX.ty114 .e) 115 CX.ty115 (.n (.n .e 116 CX.ty116 .e) 117 CX.ty117 .e)))))) 118 CX.ty118 (.n (.n (.n (.n (.n (.n (.n .e 119 CX.ty119 .e) 120 CX.ty120 (.n .e 121 CX.ty121 .e)) 122 CX.ty122 (.n (.n .e 123 CX.ty123 .e) 124 CX.ty124 .e)) 125 CX.ty125 (.n (.n (.n .e 126 CX.ty126 .e) 127 CX.ty127 (.n .e 128 CX.ty128 .e)) 129 CX.ty129 (.n (.n .e 130 CX.ty130 .e) 131 CX.ty131 .e))) 132 CX.ty132 (.n (.n (.n (.n .e 133 CX.ty133 .e) 134 CX.ty134 (.n .e 135 CX.ty135 .e)) 136 CX.ty136 (.n (.n .e 137 CX.ty137 .e) 138 CX.ty138 .e)) 139 CX.ty139 (.n (.n (.n .e 140 CX.ty140 .e) 141 CX.ty141 .e) 142 CX.ty142 (.n (.n .e 143 CX.ty143 .e) 144 CX.ty144 .e)))) 145 CX.ty145 (.n (.n (.n (.n (.n .e 147 CX.ty147 .e) 148 CX.ty148 (.n .e 150 CX.ty150 .e)) 151 CX.ty151 (.n (.n .e 152 CX.ty152 .e) 153 CX.ty153 .e)) 154 CX.ty154 (.n (.n (.n .e 155 CX.ty155 .e) 156 CX.ty156 .e) 157 CX.ty157 (.n (.n .e 158 CX.ty158 .e) 159 CX.ty159 .e))) 160 CX.ty160 (.n (.n (.n (.n .e 161 CX.ty161 .e) 162 CX.ty162 (.n .e 163 CX.ty163 .e)) 164 CX.ty164 (.n (.n .e 165 CX.ty165 .e) 166 CX.ty166 .e)) 167 CX.ty167 (.n (.n (.n .e 168 CX.ty168 .e) 169 CX.ty169 .e) 170 CX.ty170 (.n (.n .e 171 CX.ty171 .e) 172 CX.ty172 .e))))) 173 CX.ty173 (.n (.n (.n (.n (.n (.n .e 174 CX.ty174 .e) 175 CX.ty175 (.n .e 176 CX.ty176 .e)) 177 CX.ty177 (.n (.n .e 178 CX.ty178 .e) 179 CX.ty179 .e)) 181 CX.ty181 (.n (.n (.n .e 182 CX.ty182 .e) 183 CX.ty183 (.n .e 184 CX.ty184 .e)) 185 CX.ty185 (.n (.n .e 186 CX.ty186 .e) 187 CX.ty187 .e))) 189 CX.ty189 (.n (.n (.n (.n .e 190 CX.ty190 .e) 191 CX.ty191 (.n .e 192 CX.ty192 .e)) 193 CX.ty193 (.n (.n .e 194 CX.ty194 .e) 195 CX.ty195 .e)) 196 CX.ty196 (.n (.n (.n .e 198 CX.ty198 .e) 199 CX.ty199 .e) 200 CX.ty200 (.n (.n .e 201 CX.ty201 .e) 202 CX.ty202 .e)))) 203 CX.ty203 (.n (.n (.n (.n (.n .e 204 CX.ty204 .e) 205 CX.ty205 (.n .e 206 CX.ty206 .e)) 207 CX.ty207 (.n (.n .e 208 CX.ty208 .e) 209 CX.ty209 .e)) 210 CX.ty210 (.n (.n (.n .e 211 CX.ty211 .e) 212 CX.ty212 .e) 214 CX.ty214 (.n (.n .e 215 CX.ty215 .e) 216 CX.ty216 .e))) 217 CX.ty217 (.n (.n (.n (.n .e 218 CX.ty218 .e) 219 CX.ty219 (.n .e 220 CX.ty220 .e)) 221 CX.ty221 (.n (.n .e 222 CX.ty222 .e) 223 CX.ty223 .e)) 224 CX.ty224 (.n (.n (.n .e 225 CX.ty225 .e) 226 CX.ty226 .e) 227 CX.ty227 (.n (.n .e 228 CX.ty228 .e) 229 CX.ty229 .e)))))))
def ksB : BT (List Kd) := (.n (.n (.n (.n (.n (.n (.n .e 2 [.int .i64] .e) 3 [.int .i64] .e) 4 [.bool] (.n (.n .e 5 [.int .u8] .e) 6 [.int .u8] .e)) 7 [.int .i64, .int .i64, .bool, .int .u8] (.n (.n (.n .e 8 [.int .i64, .int .i64, .bool, .int .u8] .e) 9 [.str] .e) 10 [.str] (.n .e 11 [.str] .e))) 12 [.int .u64] (.n (.n (.n (.n .e 13 [.str, .int .u64] .e) 14 [.str, .int .u64] .e) 21 [.int .i32] (.n .e 22 [.int .i64, .int .i64, .int .i64] .e)) 23 [.int .i64, .int .i64, .int .i64] (.n (.n (.n .e 24 [.sl [.int .i64]] .e) 26 [.int .i64, .int .i64, .int .i64] .e) 28 [.int .i64] (.n .e 41 [.sl [.int .i64, .int .i64, .sl [.int .i64]]] .e)))) 42 [.int .i64, .int .i64, .sl [.int .i64]] (.n (.n (.n (.n (.n .e 43 [.int .i64, .int .i64, .sl [.int .i64]] .e) 44 [.sl [.sl [.int .i64, .int .i64, .int .i64]]] .e) 47 [.sl [.int .i64, .int .i64, .sl [.int .i64]]] (.n (.n .e 49 [.sl [.sl [.int .i64, .int .i64, .int .i64]]] .e) 53 [.sl [.int .i64, .int .i64, .int .i64]] .e)) 54 [.sl [.int .i64, .int .i64, .int .i64]] (.n (.n (.n .e 65 [.sl [.int .i64, .int .i64, .int .i64, .int .i64]] .e) 66 [.sl [.int .i64, .int .i64, .int .i64, .int .i64]] .e) 67 [.int .i64, .int .i64, .int .i64, .int .i64] (.n .e 68 [.int .i64, .int .i64, .int .i64, .int .i64] .e))) 69 [.int .i64, .int .i64, .int .i64, .int .i64] (.n (.n (.n (.n .e 70 [.sl [.int .i64, .int .i64, .int .i64]] .e) 71 [.sl [.int .i64, .int .i64, .int .i64, .int .i64]] .e) 72 [.sl [.int .i64, .int .i64]] (.n .e 73 [.sl [.int .i64, .int .i64, .int .i64], .sl [.int .i64, .int .i64, .int .i64, .int .i64], .sl [.int .i64, .int .i64], .int .i64] .e)) 74 [.sl [.int .i64, .int .i64, .int .i64], .sl [.int .i64, .int .i64, .int .i64, .int .i64], .sl [.int .i64, .int .i64], .int .i64] (.n (.n (.n .e 78 [.sl [.int .i64, .int .i64, .int .i64]] .e) 79 [.sl [.int .i64, .int .i64, .int .i64, .int .i64]] .e) 80 [.sl [.int .i64, .int .i64, .int .i64], .sl [.int .i64, .int .i64, .int .i64, .int .i64], .sl [.int .i64, .int .i64], .int .i64] (.n .e 81 [.sl [.int .i64, .int .i64, .int .i64], .sl [.int .i64, .int .i64, .int .i64, .int .i64], .sl [.int .i64, .int .i64], .int .i64] .e))))) 91 [.sl [.int .u8]] (.n (.n (.n (.n (.n (.n .e 93 [.sl [.bool]] .e) 97 [.sl [.sl [.int .u8]]] .e) 98 [.sl [.int .u8, .int .u8, .bool]] (.n (.n .e 104 [.int .i64, .int .i64, .int .i64] .e) 105 [.int .i64, .int .i64, .int .i64] .e)) 107 [.int .i64, .int .i64, .sl [.int .i64]] (.n (.n (.n .e 109 [.int .i64, .int .i64] .e) 110 [.int .i64, .int .i64, .int .i64] .e) 115 [.int .u8, .int .u8, .bool] (.n .e 116 [.int .u8, .int .u8, .bool] .e))) 117 [.int .i64, .int .i64, .int .i64, .int .i64] (.n (.n (.n (.n .e 118 [.int .i64, .int .i64, .int .i64, .int .i64] .e) 119 [.sl [.int .u16]] .e) 120 [.int .i64, .int .i64, .int .i64] (.n .e 121 [.int .i64, .int .i64, .int .i64] .e)) 122 [.int .u16] (.n (.n (.n .e 125 [.int .i64, .int .i64, .int .i64] .e) 127 [.int .i64, .int .i64] .e) 128 [.int .i64, .int .i64] (.n .e 160 [.int .i64, .int .i64, .int .i64] .e)))) 161 [.int .i64, .int .i64, .int .i64] (.n (.n (.n (.n (.n .e 163 [.sl [.int .i64]] .e) 164 [.sl [.int .i64]] .e) 167 [.sl [.sl [.int .i64], .sl [.int .i64], .sl [.int .i64], .sl [.int .i64], .sl [.int .i64], .sl [.int .i64], .sl [.int .i64], .sl [.int .i64], .sl [.int .i64], .sl [.int .i64]]] (.n (.n .e 168 [.sl [.int .i64, .int .i64, .int .i64, .int .i64]] .e) 169 [.int .i64, .int .i64, .int .i64, .sl [.sl [.int .i64, .int .i64, .int .i64]], .sl [.int .i64, .int .i64, .int .i64, .int .i64], .sl [.sl [.int .i64], .sl [.int .i64], .sl [.int .i64], .sl [.int .i64], .sl [.int .i64], .sl [.int .i64], .sl [.int .i64], .sl [.int .i64], .sl [.int .i64], .sl [.int .i64]], .sl [.int .i64, .int .i64, .int .i64, .int .i64], .sl [.int .i64, .int .i64, .int .i64], .sl [.int .i64, .int .i64, .int .i64, .int .i64], .sl [.int .i64, .int .i64], .int .i64] .e)) 170 [.int .i64, .int .i64, .int .i64, .sl [.sl [.int .i64, .int .i64, .int .i64]], .sl [.int .i64, .int .i64, .int .i64, .int .i64], .sl [.sl [.int .i64], .sl [.int .i64], .sl [.int .i64], .sl [.int .i64], .sl [.int .i64], .sl [.int .i64], .sl [.int .i64], .sl [.int .i64], .sl [.int .i64], .sl [.int .i64]], .sl [.int .i64, .int .i64, .int .i64, .int .i64], .sl [.int .i64, .int .i64, .int .i64], .sl [.int .i64, .int .i64, .int .i64, .int .i64], .sl [.int .i64, .int .i64], .int .i64] (.n (.n (.n .e 171 [.int .i64, .int .i64, .int .i64, .int .i64] .e) 173 [.sl [.int .i64], .sl [.int .i64]] .e) 174 [.sl [.int .i64], .sl [.int .i64], .sl [.int .i64], .sl [.int .i64], .sl [.int .i64], .sl [.int .i64], .sl [.int .i64], .sl [.int .i64], .sl [.int .i64], .sl [.int .i64]] (.n .e 175 [.int .i64, .int .i64, .int .i64] .e))) 176 [.int .i64, .int .i64, .int .i64, .int .i64] (.n (.n (.n (.n .e 186 [.int .u64] .e) 196 [.int .i64] .e) 203 [.int .u32] (.n .e 205 [.int .u64] .e)) 207 [.int .u64] (.n (.n (.n .e 221 [.int .u8] .e) 222 [.int .u8] .e) 225 [.int .i32] (.n .e 226 [.int .i32] .e))))))
end HX

namespace HX
open Go Go.Proofs CX

noncomputable def tyF (t : Nat) : Option CX.Ty := tyB.get t
def ksF (t : Nat) : Option (List Kd) := ksB.get t
noncomputable def fnF (f : Nat) : Option Func := CX.env.fn f
def extF (f : Nat) : Option CX.Ext := match beqN f 13 with
  | true => some (.bool true)
  | false => none
noncomputable def cxE (ro : Addr → Option V) : CX.Env := ⟨tyF, fnF, extF, ro⟩

structure Ctr where
  f : Nat
  sg : Sig
  pre : List (List D) → Prop
  res : List (List D) → Nat → Nat → D

def inlL (l : List (Nat × Func)) (f : Nat) : Option Func := look l f
def sigL (l : List (Nat × Sig)) (f : Nat) : Option Sig := look l f
def sigs (l : List Ctr) : List (Nat × Sig) := l.map fun c => (c.f, c.sg)
def ctrOf : List Ctr → Nat → Option Ctr
  | [], _ => none
  | c :: r, f => if c.f = f then some c else ctrOf r f
def preOf (l : List Ctr) (f : Nat) (ds : List (List D)) : Prop := match ctrOf l f with
  | some c => c.pre ds
  | none => False
def resOf (l : List Ctr) (f : Nat) (ds : List (List D)) : Nat → Nat → D := match ctrOf l f with
  | some c => c.res ds
  | none => fun _ _ => .nil
end HX

namespace HX
open Go Go.Proofs CX

def ints (l : List Int) : Rows := l.map fun x => [.i x]
def unI (rows : Rows) : List Int := rows.map fun r => (r.getD 0 .nil).int
theorem unI_ints (l : List Int) : unI (ints l) = l := by simp [unI, ints, D.int, Function.comp_def]
theorem ints_of {k : IntKind} {rows : Rows} (h : ShR [.int k] rows) : rows = ints (unI rows) := by
  have key : ∀ rows : Rows, (∀ row ∈ rows, ShL [.int k] row) → rows = ints (unI rows) := by
    intro rows
    induction rows with
    | nil => intro _; rfl
    | cons r rows ih =>
      intro h
      have h1 := h r (.head _)
      have h2 := ih fun row hr => h row (.tail _ hr)
      match r, h1 with
      | [d], h1 =>
        simp only [ShL, ShK] at h1
        obtain ⟨⟨n, rfl⟩, _⟩ := h1
        simp only [ints, unI, List.map_cons] at h2 ⊢
        rw [← h2]; rfl
      | [], h1 => simp [ShL] at h1
      | _ :: _ :: _, h1 => simp [ShL] at h1
  exact key rows h.1
theorem gt_ints (l : List Int) (i : Nat) : gt (ints l) i 0 = if i < l.length then .i (l.getD i 0) else .nil := by
  simp only [gt, ints, List.getD_eq_getElem?_getD, List.getElem?_map]
  split
  · rename_i h; simp [h]
  · rename_i h; simp [Nat.le_of_not_lt h]
theorem gtI (l : List Int) (i : Nat) : (gt (ints l) i 0).int = l.getD i 0 := by
  simp only [gt, ints, List.getD_eq_getElem?_getD, List.getElem?_map]
  cases l[i]? <;> rfl
theorem ints_len (l : List Int) : (ints l).length = l.length := by simp [ints]
theorem ints_app (l m : List Int) : ints l ++ ints m = ints (l ++ m) := by simp [ints]
theorem ints_one (x : Int) : [[D.i x]] = ints [x] := rfl
theorem ints_inj {l m : List Int} : ints l = ints m ↔ l = m := by
  refine ⟨fun h => ?_, fun h => by rw [h]⟩
  rw [← unI_ints l, h, unI_ints]

theorem inl0 {E : CX.Env} : ∀ f fn, inlL [] f = some fn → E.fn f = some fn ∧ E.ext f = none := fun _ _ h => by simp [inlL, look] at h

theorem i64_in (n : Int) : (IntKind.i64.min ≤ n ∧ n ≤ IntKind.i64.max) ↔ (-9223372036854775808 ≤ n ∧ n ≤ 9223372036854775807) := Iff.rfl
theorem take_next {α : Type} {p q : List α} {r : Nat} {x : α} (h : p.take r = q.take r) (h1 : r < p.length) (h2 : r < q.length) (he : p.getD r x = q.getD r x) : p.take (r + 1) = q.take (r + 1) := by
  rw [List.take_succ, List.take_succ, h]
  simp only [List.getD_eq_getElem?_getD, List.getElem?_eq_getElem h1, List.getElem?_eq_getElem h2, Option.getD_some] at he ⊢
  rw [he]

theorem all_next {a : Rows} {p : List D → Bool} {r : Nat} (h : (a.take r).all p = true) (hr : r < a.length) (he : p (a.getD r []) = true) : (a.take (r + 1)).all p = true := by
  rw [List.take_succ, List.all_append, h, List.getElem?_eq_getElem hr]
  simpa [List.getD_eq_getElem?_getD, List.getElem?_eq_getElem hr] using he
theorem all_not {a : Rows} {p : List D → Bool} {r : Nat} (hr : r < a.length) (he : p (a.getD r []) = false) : a.all p = false := by
  rw [List.all_eq_false]
  refine ⟨a[r], List.getElem_mem hr, ?_⟩
  simpa [List.getD_eq_getElem?_getD, List.getElem?_eq_getElem hr] using he

inductive Inls (E : CX.Env) : List (Nat × Func) → Prop
  | nil : Inls E []
  | cons {f : Nat} {fn : Func} {l : List (Nat × Func)} (h : E.fn f = some fn) (h' : E.ext f = none) (r : Inls E l) : Inls E ((f, fn) :: l)
theorem Inls.ok {E : CX.Env} : ∀ {l : List (Nat × Func)}, Inls E l → ∀ f fn, inlL l f = some fn → E.fn f = some fn ∧ E.ext f = none
  | [], _, f, fn, h => by simp [inlL, look] at h
  | (g, gn) :: l, .cons h1 h2 r, f, fn, h => by
    unfold inlL at h
    rw [look_cons] at h
    split at h
    · rename_i e
      simp only [Option.some.injEq] at h
      subst e h
      exact ⟨h1, h2⟩
    · exact r.ok f fn h

def mxI (x y : Int) : Int := if x < y then y else x
def mnI (x y : Int) : Int := if y < x then y else x
theorem mxI_eq (x y : Int) : mxI x y = max x y := by unfold mxI; split <;> omega
theorem mnI_eq (x y : Int) : mnI x y = min x y := by unfold mnI; split <;> omega
theorem dt {p : Prop} [d : Decidable p] (h : decide p = true) : p := of_decide_eq_true h
theorem df {p : Prop} [d : Decidable p] (h : decide p = false) : ¬ p := of_decide_eq_false h
theorem nt {b : Bool} (h : (!b) = true) : b = false := by simpa using h
theorem nf {b : Bool} (h : (!b) = false) : b = true := by simpa using h
theorem not_t {b : Bool} (h : (!b) = true) : b = false := by simpa using h
theorem not_f {b : Bool} (h : (!b) = false) : b = true := by simpa using h
theorem and_t {a b : Bool} (h : (a && b) = true) : a = true ∧ b = true := by simpa using h
theorem and_f {a b : Bool} (h : (a && b) = false) : a = false ∨ b = false := by cases a <;> cases b <;> simp_all

def I64 : Bool × List Kd := (false, [.int .i64])
def BOOL : Bool × List Kd := (false, [.bool])
def INS : Bool × List Kd := (false, [.sl [.int .i64]])
end HX

namespace HX
open Go Go.Proofs CX
structure V7 (pre : Nat → List (List D) → Prop) (fn : Nat → List (List D) → Nat → Nat → D) (a0_0 : Int) (a0_1 : Int) (a0_2 : Int) (a1 : Rows) (R : Nat → Nat → D)  : Prop where
  g0 : (80 < (a1.length : Int)) → pre 13 []
  g1 : (80 < (a1.length : Int)) → R 0 0 = D.b (D.boo (fn 13 [] 0 0))
  g2 : (¬ 80 < (a1.length : Int)) → pre 39 [[D.i a0_0, D.i a0_1, D.i a0_2], [D.l a1]]
  g3 : (¬ 80 < (a1.length : Int)) → pre 40 [[D.i a0_0, D.i a0_1, D.i a0_2], [D.l a1]]
  g4 : (¬ 80 < (a1.length : Int)) → pre 21 [[D.l (D.rows (fn 39 [[D.i a0_0, D.i a0_1, D.i a0_2], [D.l a1]] 0 0))], [D.l (D.rows (fn 40 [[D.i a0_0, D.i a0_1, D.i a0_2], [D.l a1]] 0 0))]]
  g5 : (¬ 80 < (a1.length : Int)) → (D.boo (fn 21 [[D.l (D.rows (fn 39 [[D.i a0_0, D.i a0_1, D.i a0_2], [D.l a1]] 0 0))], [D.l (D.rows (fn 40 [[D.i a0_0, D.i a0_1, D.i a0_2], [D.l a1]] 0 0))]] 0 0) = true) → ((D.int (fn 39 [[D.i a0_0, D.i a0_1, D.i a0_2], [D.l a1]] 1 0)) = (D.int (fn 40 [[D.i a0_0, D.i a0_1, D.i a0_2], [D.l a1]] 1 0))) → pre 13 []
  g6 : (¬ 80 < (a1.length : Int)) → (D.boo (fn 21 [[D.l (D.rows (fn 39 [[D.i a0_0, D.i a0_1, D.i a0_2], [D.l a1]] 0 0))], [D.l (D.rows (fn 40 [[D.i a0_0, D.i a0_1, D.i a0_2], [D.l a1]] 0 0))]] 0 0) = true) → ((D.int (fn 39 [[D.i a0_0, D.i a0_1, D.i a0_2], [D.l a1]] 1 0)) = (D.int (fn 40 [[D.i a0_0, D.i a0_1, D.i a0_2], [D.l a1]] 1 0))) → R 0 0 = D.b (D.boo (fn 13 [] 0 0))
  g7 : (¬ 80 < (a1.length : Int)) → (D.boo (fn 21 [[D.l (D.rows (fn 39 [[D.i a0_0, D.i a0_1, D.i a0_2], [D.l a1]] 0 0))], [D.l (D.rows (fn 40 [[D.i a0_0, D.i a0_1, D.i a0_2], [D.l a1]] 0 0))]] 0 0) = true) → (¬ (D.int (fn 39 [[D.i a0_0, D.i a0_1, D.i a0_2], [D.l a1]] 1 0)) = (D.int (fn 40 [[D.i a0_0, D.i a0_1, D.i a0_2], [D.l a1]] 1 0))) → R 0 0 = D.b false
  g8 : (¬ 80 < (a1.length : Int)) → (D.boo (fn 21 [[D.l (D.rows (fn 39 [[D.i a0_0, D.i a0_1, D.i a0_2], [D.l a1]] 0 0))], [D.l (D.rows (fn 40 [[D.i a0_0, D.i a0_1, D.i a0_2], [D.l a1]] 0 0))]] 0 0) = false) → R 0 0 = D.b false
end HX

namespace HX
open Go Go.Proofs CX
set_option maxHeartbeats 4000000 in
set_option maxRecDepth 100000 in
theorem walk7 {ro A pre fn} (hE : EnvOk ⟨A, (cxE ro), ksF, sigL [(13, ⟨[], [(false, [.bool])], false⟩), (39, ⟨[(true, [.int .i64, .int .i64, .int .i64]), (false, [.sl [.int .i64]])], [(false, [.sl [.int .i64]]), (false, [.int .i64])], false⟩), (40, ⟨[(true, [.int .i64, .int .i64, .int .i64]), (false, [.sl [.int .i64]])], [(false, [.sl [.int .i64]]), (false, [.int .i64])], false⟩), (21, ⟨[(false, [.sl [.int .i64]]), (false, [.sl [.int .i64]])], [(false, [.bool])], false⟩)], pre, fn⟩) {P : List (List D) → Prop} {res : List (List D) → Nat → Nat → D}
    (hv : ∀ (a0_0 : Int) (a0_1 : Int) (a0_2 : Int) (a1 : Rows), ShR [.int .i64] a1 → P [[.i a0_0, .i a0_1, .i a0_2], [.l a1]] → V7 pre fn a0_0 a0_1 a0_2 a1 (res [[.i a0_0, .i a0_1, .i a0_2], [.l a1]]) ) :
    PureC0 (cxE ro) 7 ⟨[(true, [.int .i64, .int .i64, .int .i64]), (false, [.sl [.int .i64]])], [(false, [.bool])], false⟩ P res := by
  have hA := hE.A
  simp only [] at hA
  have hinl : ∀ f fn, inlL [(14, Try.f14)] f = some fn → (cxE ro).fn f = some fn ∧ (cxE ro).ext f = none := Inls.ok (by repeat (first | exact .nil | refine .cons rfl rfl ?_))
  refine PureC0.of_vc hE hinl 6 (f := 7) (fn := Try.f7) ⟨rfl, rfl⟩ ?_
  intro a0_0 a0_1 a0_2 a1 ha1 hP
  obtain ⟨R, hR⟩ : ∃ R, res [[.i a0_0, .i a0_1, .i a0_2], [.l a1]] = R := ⟨_, rfl⟩
  rw [hR]
  have hV := hv a0_0 a0_1 a0_2 a1 ha1 hP
  rw [hR] at hV
  clear hR hP hv
  cbv
  repeat' (first | (refine Br.mk (fun _ => ?_) (fun _ => ?_) <;> cbv) | (refine NilB.mk (fun _ => ?_) ?_ <;> cbv) | refine And.intro ?_ ?_ | exact True.intro)
  · rename_i hp0_0
    subst hA; exact hV.g0 (dt hp0_0)
  · rename_i hp1_0
    subst hA; exact hV.g1 (dt hp1_0)
  · rename_i hp2_0
    subst hA; exact hV.g2 (df hp2_0)
  · rename_i hp3_0
    subst hA; exact hV.g3 (df hp3_0)
  · rename_i hp4_0
    subst hA; exact hV.g4 (df hp4_0)
  · rename_i hp5_0 hp5_1 hp5_2
    subst hA; exact hV.g5 (df hp5_0) hp5_1 (dt hp5_2)
  · rename_i hp6_0 hp6_1 hp6_2
    subst hA; exact hV.g6 (df hp6_0) hp6_1 (dt hp6_2)
  · rename_i hp7_0 hp7_1 hp7_2
    subst hA; exact hV.g7 (df hp7_0) hp7_1 (df hp7_2)
  · rename_i hp8_0 hp8_1
    subst hA; exact hV.g8 (df hp8_0) hp8_1
end HX

namespace HX
open Go Go.Proofs CX

theorem tyB_ok : tyB.All (fun t ty => CX.env.T t = some ty) := by
  unfold tyB
  simp only [BT.All, true_and, and_true]
  repeat' apply And.intro
  all_goals rfl

theorem cxE_ok (ro : Addr → Option V) : CX.EnvOk (cxE ro) Try.prog := by
  refine ⟨fun t ty h => CX.env_ok.T t ty (tyB_ok.get h), fun f fn h => CX.env_ok.fn f fn h, CX.env_ok.mixed, fun f b h w => ?_, fun f _ _ _ _ _ _ h => ?_⟩
  rotate_left
  · simp only [cxE, extF] at h
    split at h <;> cases h
  simp only [cxE, extF] at h
  split at h
  · rename_i hb
    simp only [beqN_iff] at hb
    simp only [Option.some.injEq, CX.Ext.bool.injEq] at h
    subst hb h
    exact (CX.works_ok w).mono fun e w' ⟨h1, h2, h3, h4, h5, h6⟩ => ⟨h1, h2, h3, h4, h5, h6⟩
  · cases h

theorem hxT {ro : Addr → Option V} : TOk (cxE ro) := TOk.of (cxE_ok ro)

theorem hxEnv {ro : Addr → Option V} {sig : Nat → Option Sig} {pre : Nat → List (List D) → Prop} {fn : Nat → List (List D) → Nat → Nat → D} (h : ∀ f sg, sig f = some sg → PureC (cxE ro) f sg (pre f) (fn f)) : EnvOk ⟨Ar.std, cxE ro, ksF, sig, pre, fn⟩ := ⟨rfl, hxT, h⟩

theorem works_pure {ro : Addr → Option V} : PureC (cxE ro) 13 ⟨[], [(false, [.bool])], false⟩ (fun _ => True) (fun _ _ _ => .b true) := by
  intro ds _ g bar nx h args hg hbar ha
  cases args with
  | cons _ _ => cases ds <;> simp [ArgsFz] at ha
  | nil =>
    have hfn : ∃ fn c, (cxE ro).fn 13 = some fn ∧ fn.body = some c := ⟨_, _, rfl, rfl⟩
    obtain ⟨fn, c, h1, h2⟩ := hfn
    refine ⟨[.bool true], h, nx, g, Evt.of fun n k => ?_, Nat.le_refl _, fun _ _ => rfl, fun _ _ h => h, fun id o hgo => ⟨hg id o hgo, .inl hgo⟩, ⟨[.bool true], rfl, fun j k hj => ?_, _, rfl, rfl⟩, trivial⟩
    · have hx : (cxE ro).ext 13 = some (.bool true) := rfl
      simp only [callF, h1, h2, hx]
      rfl
    · cases j with
      | zero =>
        simp only [List.getElem?_cons_zero, Option.some.injEq] at hj
        subst hj
        exact ⟨_, rfl, by simp only [FzC]; exact ⟨⟨_, rfl⟩, rfl⟩⟩
      | succ j => simp at hj

theorem call_ro {P : Program} {E : CX.Env} (hE : CX.EnvOk E P) {f : FuncId} {n : Nat} {v : V} {args : List V} {xs : List Value} {h' : T O} {nx' : Nat} {w : World} (hro : RoAt E.ro w) (ha : RvL (fun _ => none) 0 args xs)
    (h : callF E (cx E n) 0 .e 0 f args (fun v h nx => retV v h nx) = retV v h' nx') :
    Calls P f xs.toArray w fun e w' => ∃ u ρ n, e = .returned u ∧ Rv ρ n v u ∧ Kept w w' := by
  obtain ⟨v', g', n', fn, h1, _, _, h2⟩ := callF_ok hE (cx_ok hE n).1 (ρ := fun _ => none) (n := 0) (bar := 0) (g := .e) (w := w) (xs := xs) ⟨hro, fun a v h id o L _ _ hL => by cases hL⟩ ⟨fun id o h => by simp [T.get] at h, fun id o id' o' h => by simp [T.get] at h, fun _ _ => rfl, fun _ _ h => by cases h⟩ ha h
  have e : v' = v := by
    simp only [retV, Option.some.injEq, Prod.mk.injEq, CX.St.mk.injEq, CX.T.n.injEq, true_and, and_true] at h1
    exact h1.1
  subst e
  refine (callsIn_wide.1 (h2 none)).mono fun e w' he => ?_
  obtain ⟨u, ρ', rfl, d1, _, _, _, d5⟩ := he
  refine ⟨u, ρ', n', rfl, d1, d5.os, d5.tape, d5.output, d5.size, fun b hb => d5.keep b hb ?_⟩
  rintro ⟨id, o, L, _, h, _⟩
  simp [T.get] at h
end HX

namespace CX
open Go Go.ChangeShapes Go.WideShapes

theorem Kept.frozen {w w' : World} (h : Kept w w') {a : Addr} (ha : a.block < w.heap.size) : w'.frozen? a = w.frozen? a := by
  simp only [World.frozen?, h.2.2.2.2 a.block ha]

theorem Kept.but {w w' : World} (h : Kept w w') (may : MemPlace → Prop) : w.keptBut w' may := by
  refine ⟨h.1, h.2.2.1, fun i hi => ?_⟩
  rw [h.2.2.2.2 i hi]
  obtain ⟨o, ho⟩ : ∃ o, w.heap[i]? = some o := ⟨w.heap[i], by simp [hi]⟩
  rw [ho]
  cases o with
  | cells c t fr => exact ⟨rfl, rfl, rfl, fun _ _ => rfl⟩
  | map es c => exact .inr ⟨rfl, rfl⟩
  | _ => rfl

section
variable {H : Type} {enc : TypeId × Value → H} {P : Program}

theorem post_kept {f : Func} {s : ChangeSpec} {apart fresh handsOn again : Bool} {W W' : World} {args : Array Value} {v : Value} {ds gs : List (DataW H)} {before pa pv : List MemPlace}
    (hW : DataW.Whole enc P f.params.toList s.vars apart W args.toList ds gs before)
    (hres : ∀ (b : Nat) (sp : Nat → Bool) (hd : Bool), DataW.TrodAll enc P W' b sp hd f.resultTypes.toList (v.resultList f.resultTypes.size) (s.fn H (ds ++ gs)).results [])
    (hargs : ∀ sp : Nat → Bool, (∀ p ∈ before, sp p.block = true) → DataW.TrodAll enc P W' 0 sp true f.params.toList args.toList (s.fn H (ds ++ gs)).args pa)
    (hvars : ∀ sp : Nat → Bool, (∀ p ∈ before, sp p.block = true) → DataW.TrodVars enc P W' sp s.vars (s.fn H (ds ++ gs)).vars pv)
    (hps : before = pa ++ pv) (hk : Kept W W')
    (hok : ∀ (j : Nat) (t : TypeId) (r : Value), f.resultTypes[j]? = some t → (v.resultList f.resultTypes.size)[j]? = some r → Value.okWide P W' .any 0 t r) :
    s.post enc P f apart fresh handsOn again W args v W' := by
  have hold : ∀ p ∈ before, (fun b => decide (b < W.heap.size)) p.block = true := fun p hp => by simpa using hW.lt p hp
  have hlt := hW.lt
  refine ⟨ds, gs, before, [], pa, pv, hW, hres _ _ _, hargs _ hold, hvars _ hold, World.keptBut_mono (fun p hp => ⟨hp, ?_⟩) (hk.but (· ∈ before)), fun _ => ?_⟩
  · rw [hps, List.mem_append] at hp
    exact Or.inr hp
  · obtain ⟨_, _, _, _, _, hz, hn⟩ := hW
    refine ⟨hok, _, _, ([] ++ pa) ++ pv, ⟨[] ++ pa, pv, trodAll_append (hargs _ (fun _ _ => rfl)) (hres _ _ _), hvars _ (fun _ _ => rfl), rfl, ?_, ?_⟩, ?_⟩
    · intro b off hp
      have hp' : MemPlace.cell b off ∈ before := by rw [hps]; simpa using hp
      rw [hk.frozen (hlt _ hp')]
      exact hz b off hp'
    · intro ha
      have := hn ha
      rw [hps] at this
      simpa using this
    · intro p hp _
      rw [hps]
      simpa using hp
end
end CX

namespace HB
open Go Go.ChangeShapes Go.WideShapes Go.ChangeAt Go.RowKit

theorem add_block (a : Addr) (n : Nat) : (a.add n).block = a.block := by unfold Addr.add; split <;> rfl
theorem addr_add2 (a : Addr) (i c : Nat) : (a.add i).add c = a.add (i + c) := by
  unfold Addr.add
  by_cases hi : i = 0
  · subst hi; simp
  · by_cases hc : c = 0
    · subst hc; simp [hi]
    · simp [hi, hc, Nat.add_assoc]

theorem mapM_at {α β : Type} {f : α → Option β} : ∀ {l : List α} {r : List β}, l.mapM f = some r → r.length = l.length ∧ ∀ (i : Nat) (h : i < l.length), ∃ y, f l[i] = some y ∧ r[i]? = some y
  | [], r, h => by
    simp only [List.mapM_nil, Option.pure_def, Option.some.injEq] at h
    subst h
    exact ⟨rfl, fun i h => by simp at h⟩
  | x :: xs, r, h => by
    rw [List.mapM_cons] at h
    cases hx : f x with
    | none => simp [hx] at h
    | some y =>
      cases hxs : xs.mapM f with
      | none => simp [hx, hxs] at h
      | some ys =>
        simp only [hx, hxs, Option.bind_eq_bind, Option.bind_some, Option.pure_def, Option.some.injEq] at h
        subst h
        obtain ⟨h1, h2⟩ := mapM_at hxs
        refine ⟨by simp [h1], fun i hi => ?_⟩
        cases i with
        | zero => exact ⟨y, by simpa using hx, by simp⟩
        | succ i =>
          obtain ⟨z, e1, e2⟩ := h2 i (by simpa using hi)
          exact ⟨z, by simpa using e1, by simpa using e2⟩

theorem cells_get {w : World} {base : Nat} {a : Addr} {n : Nat} {cs : List Value} (h : w.cells? base a n = some cs) : cs.length = n ∧ (0 < n → a.block < w.heap.size) ∧ ∀ c, c < n → w.cell? (a.add c) = cs[c]? := by
  unfold World.cells? at h
  split at h
  · obtain ⟨h1, h2⟩ := mapM_at h
    rw [List.length_range] at h1
    have key : ∀ c, c < n → w.cell? (a.add c) = cs[c]? := fun c hc => by
      obtain ⟨y, e1, e2⟩ := h2 c (by simpa using hc)
      rw [List.getElem_range] at e1
      rw [e1, e2]
    refine ⟨h1, fun h0 => ?_, key⟩
    obtain ⟨y, e1, _⟩ := h2 0 (by simpa using h0)
    rw [List.getElem_range] at e1
    rcases Nat.lt_or_ge a.block w.heap.size with hb | hb
    · exact hb
    · exfalso
      unfold World.cell? at e1
      rw [add_block] at e1
      rw [Array.getElem?_eq_none (by omega)] at e1
      cases e1
  · cases h

section
variable {H : Type} {enc : TypeId × Value → H} {P : Program} {w : World} {base : Nat} {spare : Nat → Bool} {held : Bool}
theorem wf_rng {k : IntKind} {n : Int} (h : (Lit.int k n).wf = true) : k.min ≤ n ∧ n ≤ k.max := by
  simpa [Lit.wf] using h

theorem trod_array {t e : TypeId} {n m : Nat} {cs : List Value} {x : DataW H × List MemPlace} (ht : P.underlying t = some (.array n e)) (h : DataW.trod enc P w base spare held (m + 1) t cs = some x) :
    cs.length = P.cellsOf t ∧ ∀ i, i < n → ∃ y, DataW.trod enc P w base spare held m e ((cs.drop (i * P.cellsOf e)).take (P.cellsOf e)) = some y := by
  unfold DataW.trod at h
  rw [ht] at h
  split at h <;> simp_all
  obtain ⟨hl, h⟩ := h
  obtain ⟨a, h, _⟩ := h
  obtain ⟨h1, h2⟩ := mapM_at h
  intro i hi
  obtain ⟨y, e1, _⟩ := h2 i (by simpa using hi)
  rw [List.getElem_range] at e1
  exact ⟨y.1, y.2, by simpa using e1⟩

def isAgg (P : Program) (t : TypeId) : Bool := match P.underlying t with
  | some (.struct _) => true
  | some (.array _ _) => true
  | _ => false

theorem Kept_same {W W' : World} (h : CX.Kept W W') {p : MemPlace} (hp : p.block < W.heap.size) : W.sameAt W' p := by
  cases p with
  | cell b off =>
    simp only [World.sameAt, World.cell?]
    rw [h.2.2.2.2 b hp]
  | map b => exact h.2.2.2.2 b hp

theorem args_stay (hl : laidOutB P = true) {W W' : World} {sp : Nat → Bool} : ∀ {ts : List TypeId} {vs : List Value} {ds : List (DataW H)} {ps : List MemPlace}, (ts.all fun t => P.readableRec t && decide (t < P.types.size)) = true →
    DataW.TrodAll enc P W base (fun _ => true) true ts vs ds ps → (∀ p ∈ ps, W.sameAt W' p) → (∀ p ∈ ps, sp p.block = true) → DataW.TrodAll enc P W' base sp true ts vs ds ps
  | [], vs, ds, ps, _, h, _, _ => by
    obtain ⟨rfl, rfl, rfl⟩ := trodAll_nil h
    exact trodAll_mk0
  | t :: ts, [], ds, ps, _, h, _, _ => by simp [DataW.TrodAll] at h
  | t :: ts, v :: vs, [], ps, _, h, _, _ => by simp [DataW.TrodAll] at h
  | t :: ts, v :: vs, d :: ds, ps, hr, h, h1, h2 => by
    obtain ⟨p, q, ha, hb, rfl⟩ := h
    simp only [List.all_cons, Bool.and_eq_true, decide_eq_true_eq] at hr
    exact ⟨p, q, Go.WideElems.Trod_stays hl hr.1.1 hr.1.2 ha (fun x hx => h1 x (by simp [hx])) (fun x hx => h2 x (by simp [hx])),
      args_stay hl (by simpa using hr.2) hb (fun x hx => h1 x (by simp [hx])) (fun x hx => h2 x (by simp [hx])), rfl⟩

end
end HB

namespace HX
open Go Go.Proofs Go.ChangeShapes Go.WideShapes Go.ChangeAt Go.RowKit CX

def descF (g : TypeId → Option (List Kd)) (P : Program) : List Field → Nat → Option (List Kd)
  | [], _ => some []
  | f :: r, off => match g f.type with
    | some ks => match beqN f.offset off && beqN (P.cellsOf f.type) ks.length with
      | true => match descF g P r (off + ks.length) with
        | some ks' => some (ks ++ ks')
        | none => none
      | false => none
    | none => none

def repK (ks : List Kd) : Nat → List Kd
  | 0 => []
  | n + 1 => ks ++ repK ks n

def desc (P : Program) : Nat → TypeId → Option (List Kd)
  | 0, _ => none
  | n + 1, t => match P.underlying t with
    | some .bool => some [.bool]
    | some (.int k) => some [.int k]
    | some .string => some [.str]
    | some (.slice e) => match desc P n e with
      | some (k :: ks) => match beqN (P.cellsOf e) (ks.length + 1) with
        | true => some [.sl (k :: ks)]
        | false => none
      | _ => none
    | some (.struct fs) => match descF (desc P n) P fs.toList 0 with
      | some ks => match beqN (P.cellsOf t) ks.length with
        | true => some ks
        | false => none
      | none => none
    | some (.array m e) => match desc P n e with
      | some ks => match beqN (P.cellsOf e) ks.length && beqN (P.cellsOf t) (repK ks m).length with
        | true => some (repK ks m)
        | false => none
      | none => none
    | _ => none

mutual
def RngK : Kd → D → Prop
  | .int k, d => k.min ≤ d.int ∧ d.int ≤ k.max
  | .str, d => ∀ b ∈ d.str, b < 256
  | .sl ks, d => ∀ row ∈ d.rows, RngL ks row
  | _, _ => True
def RngL : List Kd → List D → Prop
  | k :: ks, d :: ds => RngK k d ∧ RngL ks ds
  | _, _ => True
end

mutual
def RdK (w : World) : Kd → D → Value → Prop
  | .int k, d, u => (∃ n, d = .i n) ∧ u = .int k d.int
  | .bool, d, u => (∃ b, d = .b b) ∧ u = .bool d.boo
  | .str, d, u => (∃ s, d = .s s) ∧ u = .string (bytesOf d.str)
  | .fnc _, _, _ => False
  | .pt _, _, _ => False
  | .sl ks, d, u => (∃ rows, d = .l rows ∧ LenR ks rows) ∧ 0 < ks.length ∧ ((d.rows = [] ∧ u = .slice none 0 0) ∨ ∃ a cap, u = .slice (some a) d.rows.length cap ∧ d.rows.length ≤ cap ∧
      ∀ i row, d.rows[i]? = some row → ∃ cs : List Value, (∀ c, c < ks.length → w.cell? (a.add (i * ks.length + c)) = cs[c]?) ∧ RdL w ks row cs)
def RdL (w : World) : List Kd → List D → List Value → Prop
  | [], [], [] => True
  | k :: ks, d :: ds, c :: cs => RdK w k d c ∧ RdL w ks ds cs
  | _, _, _ => False
end

def Holds (w : World) (ks : List Kd) (cs : List Value) : Prop := ∃ l, RdL w ks l cs ∧ RngL ks l

theorem RdL.append {w : World} : ∀ {ks ks' : List Kd} {l l' : List D} {cs cs' : List Value}, RdL w ks l cs → RdL w ks' l' cs' → RdL w (ks ++ ks') (l ++ l') (cs ++ cs')
  | [], _, [], _, [], _, _, h => h
  | _ :: _, _, _ :: _, _, _ :: _, _, h, h' => by
    simp only [RdL, List.cons_append] at h ⊢
    exact ⟨h.1, RdL.append h.2 h'⟩
  | [], _, [], _, _ :: _, _, h, _ => by simp [RdL] at h
  | [], _, _ :: _, _, _, _, h, _ => by simp [RdL] at h
  | _ :: _, _, [], _, _, _, h, _ => by simp [RdL] at h
  | _ :: _, _, _ :: _, _, [], _, h, _ => by simp [RdL] at h

theorem RdL.len {w : World} : ∀ {ks : List Kd} {l : List D} {cs : List Value}, RdL w ks l cs → l.length = ks.length ∧ cs.length = ks.length
  | [], [], [], _ => ⟨rfl, rfl⟩
  | _ :: _, _ :: _, _ :: _, h => by
    simp only [RdL] at h
    have := RdL.len h.2
    exact ⟨by simp [this.1], by simp [this.2]⟩
  | [], [], _ :: _, h => by simp [RdL] at h
  | [], _ :: _, _, h => by simp [RdL] at h
  | _ :: _, [], _, h => by simp [RdL] at h
  | _ :: _, _ :: _, [], h => by simp [RdL] at h

theorem RngL.append : ∀ {ks ks' : List Kd} {l l' : List D}, l.length = ks.length → RngL ks l → RngL ks' l' → RngL (ks ++ ks') (l ++ l')
  | [], _, [], _, _, _, h => h
  | _ :: _, _, _ :: _, _, hl, h, h' => by
    simp only [RngL, List.cons_append] at h ⊢
    exact ⟨h.1, RngL.append (by simpa using hl) h.2 h'⟩
  | [], _, _ :: _, _, hl, _, _ => by simp at hl
  | _ :: _, _, [], _, hl, _, _ => by simp at hl

theorem Holds.append {w : World} {ks ks' : List Kd} {cs cs' : List Value} (h : Holds w ks cs) (h' : Holds w ks' cs') : Holds w (ks ++ ks') (cs ++ cs') := by
  obtain ⟨l, a, b⟩ := h
  obtain ⟨l', a', b'⟩ := h'
  exact ⟨l ++ l', a.append a', b.append a.len.1 b'⟩

theorem Holds.nil {w : World} : Holds w [] [] := ⟨[], trivial, trivial⟩

section
variable {H : Type} {enc : TypeId × Value → H} {P : Program} {w : World} {base : Nat} {spare : Nat → Bool} {held : Bool}

theorem holds_one {k : Kd} {d : D} {u : Value} (h : RdK w k d u) (hr : RngK k d) : Holds w [k] [u] := ⟨[d], ⟨h, trivial⟩, ⟨hr, trivial⟩⟩

theorem holds_rep {ks : List Kd} {cs : List Value} (m : Nat) (hl : cs.length = (repK ks m).length) (h : ∀ i, i < m → Holds w ks ((cs.drop (i * ks.length)).take ks.length)) : Holds w (repK ks m) cs := by
  induction m generalizing cs with
  | zero =>
    have : cs = [] := List.length_eq_zero_iff.1 (by simpa [repK] using hl)
    subst this
    exact Holds.nil
  | succ m ih =>
    have e : cs = cs.take ks.length ++ cs.drop ks.length := (List.take_append_drop _ _).symm
    rw [e]
    refine Holds.append (by simpa using h 0 (by omega)) (ih ?_ fun i hi => ?_)
    · simp only [List.length_drop, hl, repK, List.length_append]
      omega
    · have := h (i + 1) (by omega)
      rwa [List.drop_drop, show ks.length + i * ks.length = (i + 1) * ks.length by rw [Nat.add_mul]; omega]

theorem holds_fields {g : TypeId → Option (List Kd)} {cs : List Value} : ∀ (fs : List Field) (off : Nat) (ks : List Kd), descF g P fs off = some ks → cs.length = off + ks.length →
    (∀ f ∈ fs, ∀ ks', g f.type = some ks' → Holds w ks' ((cs.drop f.offset).take (P.cellsOf f.type))) → Holds w ks (cs.drop off)
  | [], off, ks, h, hl, _ => by
    simp only [descF, Option.some.injEq] at h
    subst h
    have : cs.drop off = [] := List.drop_eq_nil_of_le (by simp at hl; omega)
    rw [this]
    exact Holds.nil
  | f :: r, off, ks, h, hl, hf => by
    simp only [descF] at h
    split at h
    · rename_i ks1 hk
      split at h
      · rename_i hb
        simp only [Bool.and_eq_true, beqN_iff] at hb
        split at h
        · rename_i ks2 hks2
          simp only [Option.some.injEq] at h
          subst h
          have e : cs.drop off = (cs.drop off).take ks1.length ++ (cs.drop off).drop ks1.length := (List.take_append_drop _ _).symm
          rw [e]
          refine Holds.append ?_ ?_
          · have := hf f (by simp) ks1 hk
            rwa [hb.1, hb.2] at this
          · rw [List.drop_drop]
            exact holds_fields r (off + ks1.length) ks2 hks2 (by rw [hl, List.length_append]; omega) (fun f' hf' => hf f' (by simp [hf']))
        · cases h
      · cases h
    · cases h

theorem bytes_of (z : ByteArray) : bytesOf (z.data.toList.map UInt8.toNat) = z := by
  obtain ⟨d⟩ := z
  simp only [bytesOf, List.map_map]
  congr 1
  have : (UInt8.ofNat ∘ UInt8.toNat) = id := by funext x; simp
  rw [this]
  simp

theorem holds_of_trod : ∀ (n : Nat) (t : TypeId) (ks : List Kd), desc P n t = some ks → ∀ (m : Nat) (cs : List Value) (x : DataW H × List MemPlace), DataW.trod enc P w base spare held m t cs = some x → Holds w ks cs
  | 0, _, _, h, _, _, _, _ => by simp [desc] at h
  | n + 1, t, ks, h, m, cs, x, hx => by
    unfold desc at h
    split at h
    · rename_i hu
      simp only [Option.some.injEq] at h
      subst h
      obtain ⟨b, rfl, _⟩ := DataW.trod_bool hu hx
      exact holds_one (d := .b b) ⟨⟨_, rfl⟩, rfl⟩ trivial
    · rename_i k hu
      simp only [Option.some.injEq] at h
      subst h
      obtain ⟨z, rfl, _, hw⟩ := DataW.trod_int hu hx
      exact holds_one (d := .i z) ⟨⟨_, rfl⟩, rfl⟩ (HB.wf_rng hw)
    · rename_i hu
      simp only [Option.some.injEq] at h
      subst h
      obtain ⟨z, rfl, _, _⟩ := DataW.trod_string hu hx
      refine holds_one (d := .s (z.data.toList.map UInt8.toNat)) ⟨⟨_, rfl⟩, ?_⟩ ?_
      · show Value.string z = .string (bytesOf (z.data.toList.map UInt8.toNat))
        rw [bytes_of]
      · intro b hb
        obtain ⟨x, _, rfl⟩ := List.mem_map.1 (show b ∈ z.data.toList.map UInt8.toNat from hb)
        exact x.toNat_lt
    · rename_i e hu
      split at h
      · rename_i k ks' hd
        split at h
        · rename_i hb
          have hb : P.cellsOf e = ks'.length + 1 := by rw [beqN_iff] at hb; exact hb
          simp only [Option.some.injEq] at h
          subst h
          rcases DataW.trod_slice hu hx with ⟨rfl, _⟩ | ⟨a, len, cap, elems, rest, m', rfl, rfl, _, _, h2, h3, h4, h5, _, _⟩
          · exact holds_one (d := .l []) ⟨⟨_, rfl, fun _ h => (by cases h), by simp⟩, by simp, .inl ⟨rfl, rfl⟩⟩ (fun _ h => (by cases h))
          · have row : ∀ i, i < len → ∃ l cs', (∀ c, c < ks'.length + 1 → w.cell? (a.add (i * (ks'.length + 1) + c)) = cs'[c]?) ∧ RdL w (k :: ks') l cs' ∧ RngL (k :: ks') l := by
              intro i hi
              have e1 := h5 i hi
              rw [List.getElem?_eq_getElem (by omega)] at e1
              obtain ⟨cs', c1, c2⟩ := Option.bind_eq_some_iff.1 e1
              obtain ⟨d1, d2, d3⟩ := HB.cells_get c1
              rw [hb] at d1 d2 d3 c1
              obtain ⟨l, g1, g2⟩ := holds_of_trod n e (k :: ks') hd m' cs' _ c2
              refine ⟨l, cs', fun c hc => ?_, g1, g2⟩
              rw [← d3 c hc, HB.addr_add2]
            let rows : Rows := (List.range len).map fun i => if h : i < len then Classical.choose (row i h) else []
            have hlen : rows.length = len := by simp [rows]
            have hget : ∀ i r, rows[i]? = some r → ∃ h : i < len, r = Classical.choose (row i h) := by
              intro i r hr
              have hi : i < len := by rw [← hlen]; exact (List.getElem?_eq_some_iff.1 hr).1
              refine ⟨hi, ?_⟩
              simp only [rows, List.getElem?_map, List.getElem?_range hi, Option.map_some, Option.some.injEq] at hr
              rw [← hr, dif_pos hi]
            refine holds_one (d := .l rows) ⟨⟨_, rfl, fun r hr => ?_, ?_⟩, by simp, .inr ⟨a, cap, ?_, ?_, fun i r hr => ?_⟩⟩ (fun r hr => ?_)
            · obtain ⟨i, hi⟩ := List.getElem?_of_mem hr
              obtain ⟨h, rfl⟩ := hget i r hi
              obtain ⟨_, _, h6, _⟩ := Classical.choose_spec (row i h)
              exact h6.len.1
            · have h3 : cap ≤ 9223372036854775807 := h3
              rw [hlen]; omega
            · show Value.slice (some a) len cap = .slice (some a) rows.length cap
              rw [hlen]
            · show rows.length ≤ cap
              rw [hlen]; exact h2
            · obtain ⟨h, rfl⟩ := hget i r hr
              obtain ⟨cs', h5', h6, _⟩ := Classical.choose_spec (row i h)
              exact ⟨cs', fun c hc => h5' c (by simpa using hc), h6⟩
            · obtain ⟨i, hi⟩ := List.getElem?_of_mem (show r ∈ rows from hr)
              obtain ⟨h, rfl⟩ := hget i r hi
              obtain ⟨_, _, _, h7⟩ := Classical.choose_spec (row i h)
              exact h7
        · cases h
      · cases h
    · rename_i fs hu
      split at h
      · rename_i ks' hd
        split at h
        · rename_i hb
          rw [beqN_iff] at hb
          simp only [Option.some.injEq] at h
          subst h
          obtain ⟨xs, m', rfl, _, hl, hxs, hf⟩ := DataW.trod_struct hu hx
          have := holds_fields (w := w) (cs := cs) fs.toList 0 ks' hd (by rw [hl, hb]; simp) (fun f hm ks1 hk1 => ?_)
          · simpa using this
          · obtain ⟨i, hi, rfl⟩ := List.mem_iff_getElem.1 hm
            have hi' : i < fs.size := by simpa using hi
            have e1 := hf i fs[i] (by simp [hi'])
            rw [List.getElem?_eq_getElem (by omega)] at e1
            have e2 : fs.toList[i] = fs[i] := by simp
            rw [e2] at hk1 ⊢
            exact holds_of_trod n _ ks1 hk1 m' _ _ e1
        · cases h
      · cases h
    · rename_i m0 e hu
      split at h
      · rename_i ks' hd
        split at h
        · rename_i hb
          simp only [Bool.and_eq_true, beqN_iff] at hb
          simp only [Option.some.injEq] at h
          subst h
          cases m with
          | zero => simp [DataW.trod] at hx
          | succ m' =>
            obtain ⟨hl, hi⟩ := HB.trod_array hu hx
            refine holds_rep m0 (by rw [hl, hb.2]) fun i h => ?_
            obtain ⟨y, hy⟩ := hi i h
            rw [hb.1] at hy
            exact holds_of_trod n e ks' hd m' _ y hy
        · cases h
      · cases h
    · cases h


def strOf (z : ByteArray) : List Nat := z.data.toList.map UInt8.toNat

def valOf : Value → Option V
  | .int k n => some (.int k n)
  | .bool b => some (.bool b)
  | .string z => some (.str (strOf z))
  | .slice none 0 0 => some .nils
  | .slice (some a) n cap => if n ≤ cap then some (.rslc a n cap) else none
  | _ => none

noncomputable def roOf (w : World) (a : Addr) : Option V := match w.cell? a with
  | some u => valOf u
  | none => none

theorem valOf_rv {u : Value} {v : V} (h : valOf u = some v) : one1 v = true ∧ ∀ ρ n, Rv ρ n v u := by
  unfold valOf at h
  split at h
  · cases h; exact ⟨rfl, fun _ _ => by simp only [Rv]⟩
  · cases h; exact ⟨rfl, fun _ _ => by simp only [Rv]⟩
  · cases h
    rename_i z
    refine ⟨rfl, fun _ _ => ?_⟩
    simp only [Rv]
    refine ⟨fun b hb => ?_, by rw [strOf, bytes_of]⟩
    obtain ⟨x, _, rfl⟩ := List.mem_map.1 (show b ∈ z.data.toList.map UInt8.toNat from hb)
    exact x.toNat_lt
  · cases h; exact ⟨rfl, fun _ _ => by simp only [Rv]⟩
  · split at h
    · rename_i hle
      cases h
      exact ⟨rfl, fun _ _ => by simp only [Rv]; exact ⟨hle, trivial⟩⟩
    · cases h
  · cases h

theorem roOf_ok (w : World) : RoAt (roOf w) w := by
  intro a v h
  unfold roOf at h
  split at h
  · rename_i u hu
    obtain ⟨h1, h2⟩ := valOf_rv h
    exact ⟨h1, u, hu, fun ρ n => h2 ρ n⟩
  · cases h

theorem str_bytes {s : List Nat} (h : ∀ b ∈ s, b < 256) : strOf (bytesOf s) = s := by
  simp only [strOf, bytesOf, List.map_map]
  induction s with
  | nil => rfl
  | cons b s ih =>
    have hb := h b (.head _)
    simp only [List.map_cons, Function.comp_apply, UInt8.toNat_ofNat', List.cons.injEq]
    exact ⟨Nat.mod_eq_of_lt hb, ih fun x hx => h x (.tail _ hx)⟩

mutual
theorem rdK_fz {g : Nat → Option O} {B : Nat} : ∀ (k : Kd) (d : D) (u : Value), RdK w k d u → RngK k d → ∃ v, valOf u = some v ∧ FzC (roOf w) g B k d v
  | .int k, d, u, h, _ => by
    simp only [RdK] at h
    obtain ⟨⟨n, rfl⟩, rfl⟩ := h
    exact ⟨_, rfl, by simp only [FzC]; exact ⟨⟨_, rfl⟩, trivial⟩⟩
  | .bool, d, u, h, _ => by
    simp only [RdK] at h
    obtain ⟨⟨n, rfl⟩, rfl⟩ := h
    exact ⟨_, rfl, by simp only [FzC]; exact ⟨⟨_, rfl⟩, trivial⟩⟩
  | .str, d, u, h, hr => by
    simp only [RdK] at h
    obtain ⟨⟨n, rfl⟩, rfl⟩ := h
    simp only [RngK, D.str] at hr
    refine ⟨_, rfl, ?_⟩
    simp only [FzC, D.str, str_bytes hr]
    exact ⟨⟨_, rfl⟩, trivial⟩
  | .sl ks, d, u, h, hr => by
    simp only [RdK] at h
    obtain ⟨⟨rows, rfl, hl⟩, hpos, h⟩ := h
    simp only [RngK, D.rows] at hr h
    rcases h with ⟨rfl, rfl⟩ | ⟨a, cap, rfl, hcap, hrow⟩
    · exact ⟨.nils, rfl, by simp only [FzC]; exact ⟨⟨_, rfl, hl⟩, .inl ⟨rfl, trivial⟩⟩⟩
    · refine ⟨.rslc a rows.length cap, by simp only [valOf]; rw [if_pos hcap], ?_⟩
      simp only [FzC, D.rows]
      refine ⟨⟨_, rfl, hl⟩, .inr (.inr ⟨a, cap, rfl, hpos, hcap, fun i hi => ?_⟩)⟩
      obtain ⟨cs, c1, c2⟩ := hrow i rows[i] (List.getElem?_eq_getElem hi)
      have hg := hr rows[i] (List.getElem_mem hi)
      refine FzR.of _ _ _ _ fun j k hk => ?_
      have hj : j < ks.length := (List.getElem?_eq_some_iff.1 hk).1
      obtain ⟨v, e1, e2⟩ := rdL_fz (g := g) (B := B) ks rows[i] cs c2 hg j k hk
      refine ⟨v, ?_, ?_⟩
      · simp only [roOf, Nat.zero_add, c1 j hj]
        revert e1
        cases cs[j]? with
        | none => intro e1; cases e1
        | some u => intro e1; exact e1
      · have : gt rows i (0 + j) = rows[i].getD j .nil := by simp [gt, List.getD_eq_getElem?_getD, hi]
        rw [this]; exact e2
theorem rdL_fz {g : Nat → Option O} {B : Nat} : ∀ (ks : List Kd) (l : List D) (cs : List Value), RdL w ks l cs → RngL ks l → ∀ j k, ks[j]? = some k → ∃ v, (cs[j]?).bind valOf = some v ∧ FzC (roOf w) g B k (l.getD j .nil) v
  | [], _, _, _, _, j, k, hk => by simp at hk
  | k0 :: ks, d :: l, c :: cs, h, hr, 0, k, hk => by
    simp only [RdL] at h
    simp only [RngL] at hr
    simp only [List.getElem?_cons_zero, Option.some.injEq] at hk
    subst hk
    obtain ⟨v, a, b⟩ := rdK_fz (g := g) (B := B) k0 d c h.1 hr.1
    exact ⟨v, by simpa using a, by simpa using b⟩
  | k0 :: ks, d :: l, c :: cs, h, hr, j + 1, k, hk => by
    simp only [RdL] at h
    simp only [RngL] at hr
    obtain ⟨v, a, b⟩ := rdL_fz (g := g) (B := B) ks l cs h.2 hr.2 j k (by simpa using hk)
    exact ⟨v, by simpa using a, by simpa using b⟩
  | _ :: _, [], _, h, _, _, _, _ => by simp [RdL] at h
  | _ :: _, _ :: _, [], h, _, _, _, _ => by simp [RdL] at h
end

theorem rdL_vals {g : Nat → Option O} {B : Nat} {ρ : Nm} {n : Nat} : ∀ (ks : List Kd) (l : List D) (cs : List Value), RdL w ks l cs → RngL ks l →
    ∃ x : List V, x.length = ks.length ∧ (∀ j k, ks[j]? = some k → ∃ u, x[j]? = some u ∧ FzC (roOf w) g B k (l.getD j .nil) u) ∧ RvL ρ n x cs
  | [], [], [], _, _ => ⟨[], rfl, fun j k h => by simp at h, by simp [RvL]⟩
  | k :: ks, d :: l, c :: cs, h, hr => by
    simp only [RdL] at h
    simp only [RngL] at hr
    obtain ⟨v, a, b⟩ := rdK_fz (g := g) (B := B) k d c h.1 hr.1
    obtain ⟨x, e1, e2, e3⟩ := rdL_vals (g := g) (B := B) (ρ := ρ) (n := n) ks l cs h.2 hr.2
    refine ⟨v :: x, by simp [e1], fun j k' hk => ?_, by simp only [RvL]; exact ⟨(valOf_rv a).2 ρ n, e3⟩⟩
    cases j with
    | zero =>
      simp only [List.getElem?_cons_zero, Option.some.injEq] at hk
      subst hk
      exact ⟨v, rfl, by simpa using b⟩
    | succ j => simpa using e2 j k' (by simpa using hk)
  | [], [], _ :: _, h, _ => by simp [RdL] at h
  | [], _ :: _, _, h, _ => by simp [RdL] at h
  | _ :: _, [], _, h, _ => by simp [RdL] at h
  | _ :: _, _ :: _, [], h, _ => by simp [RdL] at h

def descAll (P : Program) (n : Nat) : List TypeId → Option (List (Bool × List Kd))
  | [] => some []
  | t :: r => match desc P n t, descAll P n r with
    | some ks, some l => some ((HB.isAgg P t, ks) :: l)
    | _, _ => none

def RngAll : List (Bool × List Kd) → List (List D) → Prop
  | (_, ks) :: r, d :: ds => RngL ks d ∧ RngAll r ds
  | _, _ => True

def trueRes (_ : List (List D)) (_ _ : Nat) : D := .b true

def ArgsRd (w : World) : List (Bool × List Kd) → List (List D) → List Value → Prop
  | [], [], [] => True
  | (g, ks) :: r, d :: ds, v :: vs => (RdL w ks d v.cells.toList ∧ (g = true → v = .agg (v.cells.toList).toArray) ∧ (g = false → v.cells.toList = [v])) ∧ ArgsRd w r ds vs
  | _, _, _ => False

theorem args_fz {g : Nat → Option O} {B : Nat} {ρ : Nm} {n : Nat} : ∀ (ps : List (Bool × List Kd)) (ds : List (List D)) (vs : List Value), ArgsRd w ps ds vs → RngAll ps ds → ∃ x : List V, ArgsFz (roOf w) g B ps ds x ∧ RvL ρ n x vs
  | [], [], [], _, _ => ⟨[], trivial, by simp [RvL]⟩
  | (a, ks) :: ps, d :: ds, v :: vs, h, hr => by
    obtain ⟨⟨h1, h2, h3⟩, h4⟩ := h
    obtain ⟨x, e1, e2, e3⟩ := rdL_vals (g := g) (B := B) (ρ := ρ) (n := n) ks d _ h1 hr.1
    obtain ⟨xs, f1, f2⟩ := args_fz (g := g) (B := B) (ρ := ρ) (n := n) ps ds vs h4 hr.2
    cases a with
    | true => exact ⟨.agg x :: xs, ⟨h1.len.1, ⟨x, e1, e2, rfl⟩, f1⟩, by simp only [RvL, Rv]; exact ⟨⟨_, e3, h2 rfl⟩, f2⟩⟩
    | false =>
      rw [h3 rfl] at e3
      match x, e3 with
      | [y], e3 =>
        simp only [RvL, and_true] at e3
        exact ⟨y :: xs, ⟨h1.len.1, ⟨[y], e1, e2, y, rfl, rfl⟩, f1⟩, by simp only [RvL]; exact ⟨e3, f2⟩⟩
      | [], e3 => simp [RvL] at e3
      | _ :: _ :: _, e3 => simp [RvL] at e3
  | [], [], _ :: _, h, _ => h.elim
  | [], _ :: _, _, h, _ => h.elim
  | _ :: _, [], _, h, _ => h.elim
  | _ :: _, _ :: _, [], h, _ => h.elim

theorem shape_of {r : Reach} {n : Nat} {t : TypeId} {ks : List Kd} {v : Value} (hd : desc P n t = some ks) (h : Value.okWide P w r base t v) :
    (HB.isAgg P t = true → v = .agg (v.cells.toList).toArray) ∧ (HB.isAgg P t = false → v.cells.toList = [v]) := by
  cases n with
  | zero => simp [desc] at hd
  | succ n =>
    unfold desc at hd
    unfold HB.isAgg
    split at hd
    · rename_i hu
      obtain ⟨b, rfl⟩ := okWide_bool hu h
      rw [hu]
      exact ⟨fun h => (by cases h), fun _ => rfl⟩
    · rename_i k hu
      obtain ⟨z, rfl⟩ := okWide_int hu h
      rw [hu]
      exact ⟨fun h => (by cases h), fun _ => rfl⟩
    · rename_i hu
      obtain ⟨z, rfl⟩ := okWide_string hu h
      rw [hu]
      exact ⟨fun h => (by cases h), fun _ => rfl⟩
    · rename_i e hu
      obtain ⟨a, l, c, rfl⟩ := okWide_slice hu h
      rw [hu]
      exact ⟨fun h => (by cases h), fun _ => rfl⟩
    · rename_i fs hu
      obtain ⟨cs, rfl, _⟩ := okWide_struct hu h
      rw [hu]
      exact ⟨fun _ => by simp [Value.cells], fun h => by cases h⟩
    · rename_i m e hu
      have : ∃ cs, v = .agg cs := by
        unfold Value.okWide at h
        rw [hu] at h
        obtain ⟨cs, hc, _⟩ := h
        exact ⟨cs, hc⟩
      obtain ⟨cs, rfl⟩ := this
      rw [hu]
      exact ⟨fun _ => by simp [Value.cells], fun h => by cases h⟩
    · cases hd

theorem args_read {r : Reach} {n : Nat} : ∀ (ts : List TypeId) (params : List (Bool × List Kd)) (vs : List Value) (ds : List (DataW H)) (ps : List MemPlace), descAll P n ts = some params →
    (∀ (j : Nat) t v, ts[j]? = some t → vs[j]? = some v → Value.okWide P w r base t v) → DataW.TrodAll enc P w 0 spare held ts vs ds ps →
    ∃ dss, ArgsRd w params dss vs ∧ RngAll params dss
  | [], params, vs, ds, ps, hd, _, h => by
    simp only [descAll, Option.some.injEq] at hd
    subst hd
    obtain ⟨rfl, _, _⟩ := trodAll_nil h
    exact ⟨[], trivial, trivial⟩
  | t :: ts, params, vs, ds, ps, hd, hok, h => by
    unfold descAll at hd
    split at hd
    · rename_i ks l hks hl
      simp only [Option.some.injEq] at hd
      subst hd
      cases vs with
      | nil => simp [DataW.TrodAll] at h
      | cons v vs =>
        cases ds with
        | nil => simp [DataW.TrodAll] at h
        | cons d ds =>
          obtain ⟨p, q, ⟨m, hm⟩, h2, _⟩ := h
          obtain ⟨f, g1, g2⟩ := holds_of_trod n t ks hks m _ _ hm
          obtain ⟨dss, i1, i2⟩ := args_read ts l vs ds q hl (fun j t' v' ht hv => hok (j + 1) t' v' (by simpa using ht) (by simpa using hv)) h2
          obtain ⟨s1, s2⟩ := shape_of hks (hok 0 t v (by simp) (by simp))
          exact ⟨f :: dss, ⟨⟨g1, s1, s2⟩, i1⟩, g2, i2⟩
    · cases hd
end

section
variable {H : Type} {enc : TypeId × Value → H} {P : Program}

theorem said {fnum : FuncId} {f : Func} {s : ChangeSpec} {fresh handsOn again : Bool} {n : Nat} {params : List (Bool × List Kd)} {tb : TypeId}
    (hE : ∀ ro, CX.EnvOk (cxE ro) P) (hpure : ∀ ro, PureC0 (cxE ro) fnum ⟨params, [(false, [.bool])], false⟩ (RngAll params) trueRes) (hd : descAll P n f.params.toList = some params) (hl : laidOutB P = true)
    (hr : (f.params.toList.all fun t => P.readableRec t && decide (t < P.types.size)) = true) (hres : f.resultTypes = #[tb]) (hb : P.underlying tb = some .bool)
    (hs : ∀ ds : List (DataW H), ds.length = f.params.toList.length → s.fn H ds = ⟨[.lit (.bool true)], ds, []⟩) (hv : s.vars = []) {apart : Bool} (W : World) (base : Nat) (args : Array Value) (ds gs : List (DataW H)) (before : List MemPlace)
    (hval : ∀ (j : Nat) t v, f.params[j]? = some t → args[j]? = some v → Value.okWide P W .any base t v) (hW : DataW.Whole enc P f.params.toList s.vars apart W args.toList ds gs before) :
    Calls P fnum args W fun e W' => ∃ v, e = .returned v ∧ s.post enc P f apart fresh handsOn again W args v W' := by
  have hW' := hW
  obtain ⟨p, q, hA, hV, rfl, _, _⟩ := hW
  rw [hv] at hV
  obtain ⟨rfl, rfl⟩ := trodVars_none hV
  obtain ⟨dss, h1, h2⟩ := args_read (r := .any) (base := base) f.params.toList params args.toList ds p hd (fun j t v ht hv => hval j t v (by simpa using ht) (by simpa using hv)) hA
  have hlen := (trodAll_length hA).2
  have hfn : s.fn H (ds ++ []) = ⟨[.lit (.bool true)], ds, []⟩ := by rw [List.append_nil]; exact hs ds hlen
  obtain ⟨xs, x1, x2⟩ := args_fz (g := fun _ => none) (B := 0) (ρ := fun _ => none) (n := 0) params dss args.toList h1 h2
  obtain ⟨vs, h', nx', g', ⟨n0, hrun⟩, hresF⟩ := hpure (roOf W) dss h2 xs x1
  have hvs : vs = [.bool true] := by
    match vs, hresF with
    | [v], hresF =>
      obtain ⟨⟨x, _, e2, u, rfl, rfl⟩, _⟩ := hresF
      obtain ⟨u, e3, e4⟩ := e2 0 .bool rfl
      simp only [List.getElem?_cons_zero, Option.some.injEq] at e3
      subst e3
      simp only [FzC] at e4
      rw [e4.2]; rfl
    | [], hresF => simp [ResFz] at hresF
    | _ :: _ :: _, hresF => simp [ResFz] at hresF
  subst hvs
  have hcall := call_ro (hE (roOf W)) (w := W) (roOf_ok W) x2 (hrun n0 (Nat.le_refl _) retV)
  rw [show args.toList.toArray = args by simp] at hcall
  refine hcall.mono fun e W' h => ?_
  obtain ⟨u, ρ, m, rfl, hu, hk⟩ := h
  simp only [CX.one, Rv] at hu
  subst hu
  have hlt := hW'.lt
  simp only [List.append_nil] at hW' hlt
  refine ⟨_, rfl, CX.post_kept (pa := p) (pv := []) hW' (fun b sp hd => ?_) (fun sp hsp => ?_) (fun sp _ => ?_) (by simp) hk (ok_one hres rfl (okWide_bool_mk hb _))⟩
  · rw [hfn, hres]
    exact trodAll_mk1 (shut_bool hb _)
  · rw [hfn]
    exact HB.args_stay hl hr hA (fun x hx => HB.Kept_same hk (hlt x hx)) (fun x hx => hsp x hx)
  · rw [hfn, hv]
    rfl
end
end HX

namespace HX
open Go Go.Proofs
theorem own : ownKnob Try.prog.godebug = none := by kernel_rfl
theorem laid : laidOutB Try.prog = true := by kernel_rfl
end HX

namespace HX
open Go Go.Proofs CX

inductive Ctrs (E : CX.Env) : List Ctr → Prop
  | nil : Ctrs E []
  | cons {c : Ctr} {l : List Ctr} (h : PureC E c.f c.sg c.pre c.res) (r : Ctrs E l) : Ctrs E (c :: l)

theorem Ctrs.find {E : CX.Env} : ∀ {l : List Ctr}, Ctrs E l → ∀ {f : Nat} {sg : Sig}, sigL (sigs l) f = some sg → PureC E f sg (preOf l f) (resOf l f)
  | [], _, f, sg, h => by simp [sigL, sigs, look] at h
  | c :: l, .cons h1 h2, f, sg, h => by
    simp only [sigL, sigs, List.map_cons] at h
    rw [look_cons] at h
    split at h
    · rename_i e
      simp only [Option.some.injEq] at h
      subst e h
      have e1 : preOf (c :: l) c.f = c.pre := by funext ds; simp [preOf, ctrOf]
      have e2 : resOf (c :: l) c.f = c.res := by funext ds; simp [resOf, ctrOf]
      rw [e1, e2]; exact h1
    · rename_i e
      have e1 : preOf (c :: l) f = preOf l f := by funext ds; simp [preOf, ctrOf, e]
      have e2 : resOf (c :: l) f = resOf l f := by funext ds; simp [resOf, ctrOf, e]
      rw [e1, e2]
      exact h2.find h

theorem envL {ro : Addr → Option V} {l : List Ctr} (h : Ctrs (cxE ro) l) : EnvOk ⟨Ar.std, cxE ro, ksF, sigL (sigs l), preOf l, resOf l⟩ := hxEnv fun _ _ hs => h.find hs
end HX

namespace HX
open Go Go.Proofs CX
structure V83 (a0_0 : Int) (a0_1 : Int) (a0_2 : Int) (a1 : Int) (R : Nat → Nat → D)  : Prop where
  g0 : a0_0 ≠ 0
  g1 : (0 < (Int.tmod a1 a0_0)) → -9223372036854775808 ≤ (a1 - 1) ∧ (a1 - 1) ≤ 9223372036854775807
  g2 : (0 < (Int.tmod a1 a0_0)) → R 0 0 = D.i (a1 - 1)
  g3 : (¬ 0 < (Int.tmod a1 a0_0)) → -9223372036854775808 ≤ (a1 - a0_0) ∧ (a1 - a0_0) ≤ 9223372036854775807
  g4 : (¬ 0 < (Int.tmod a1 a0_0)) → R 0 0 = D.i (a1 - a0_0)
end HX

namespace HX
open Go Go.Proofs CX
structure V82 (pre : Nat → List (List D) → Prop) (fn : Nat → List (List D) → Nat → Nat → D) (a0_0 : Int) (a0_1 : Int) (a0_2 : Int) (a1 : Rows) (a2 : Int) (R : Nat → Nat → D) (I0 : Int → Int → Prop) (m0 : Int → Int → Nat) : Prop where
  g0 : 0 ≤ a2
  g1 : a2 < (a1.length : Int)
  g2 : (((Int.toNat a2 : Nat) : Int)) < (a1.length : Int)
  i0 : I0 (D.int (gt a1 a2.toNat 0)) 1
  g4 : ∀ x0_0 x0_1, I0 x0_0 x0_1 → (x0_1 < (a1.length : Int)) → (¬ x0_1 = a2) → pre 83 [[D.i a0_0, D.i a0_1, D.i a0_2], [D.i x0_1]]
  g5 : ∀ x0_0 x0_1, I0 x0_0 x0_1 → (x0_1 < (a1.length : Int)) → (¬ x0_1 = a2) → ((D.int (fn 83 [[D.i a0_0, D.i a0_1, D.i a0_2], [D.i x0_1]] 0 0)) = a2) → pre 82 [[D.i a0_0, D.i a0_1, D.i a0_2], [D.l a1], [D.i x0_1]]
  g6 : ∀ x0_0 x0_1, I0 x0_0 x0_1 → (x0_1 < (a1.length : Int)) → (¬ x0_1 = a2) → ((D.int (fn 83 [[D.i a0_0, D.i a0_1, D.i a0_2], [D.i x0_1]] 0 0)) = a2) → -9223372036854775808 ≤ ((D.int (fn 82 [[D.i a0_0, D.i a0_1, D.i a0_2], [D.l a1], [D.i x0_1]] 0 0)) + 1) ∧ ((D.int (fn 82 [[D.i a0_0, D.i a0_1, D.i a0_2], [D.l a1], [D.i x0_1]] 0 0)) + 1) ≤ 9223372036854775807
  g7 : ∀ x0_0 x0_1, I0 x0_0 x0_1 → (x0_1 < (a1.length : Int)) → (¬ x0_1 = a2) → ((D.int (fn 83 [[D.i a0_0, D.i a0_1, D.i a0_2], [D.i x0_1]] 0 0)) = a2) → -9223372036854775808 ≤ (x0_1 + 1) ∧ (x0_1 + 1) ≤ 9223372036854775807
  n8 : ∀ x0_0 x0_1, I0 x0_0 x0_1 → (x0_1 < (a1.length : Int)) → (¬ x0_1 = a2) → ((D.int (fn 83 [[D.i a0_0, D.i a0_1, D.i a0_2], [D.i x0_1]] 0 0)) = a2) → I0 (mxI x0_0 ((D.int (fn 82 [[D.i a0_0, D.i a0_1, D.i a0_2], [D.l a1], [D.i x0_1]] 0 0)) + 1)) (x0_1 + 1) ∧ m0 (mxI x0_0 ((D.int (fn 82 [[D.i a0_0, D.i a0_1, D.i a0_2], [D.l a1], [D.i x0_1]] 0 0)) + 1)) (x0_1 + 1) < m0 x0_0 x0_1
  g9 : ∀ x0_0 x0_1, I0 x0_0 x0_1 → (x0_1 < (a1.length : Int)) → (¬ x0_1 = a2) → (¬ (D.int (fn 83 [[D.i a0_0, D.i a0_1, D.i a0_2], [D.i x0_1]] 0 0)) = a2) → -9223372036854775808 ≤ (x0_1 + 1) ∧ (x0_1 + 1) ≤ 9223372036854775807
  n10 : ∀ x0_0 x0_1, I0 x0_0 x0_1 → (x0_1 < (a1.length : Int)) → (¬ x0_1 = a2) → (¬ (D.int (fn 83 [[D.i a0_0, D.i a0_1, D.i a0_2], [D.i x0_1]] 0 0)) = a2) → I0 x0_0 (x0_1 + 1) ∧ m0 x0_0 (x0_1 + 1) < m0 x0_0 x0_1
  g11 : ∀ x0_0 x0_1, I0 x0_0 x0_1 → (x0_1 < (a1.length : Int)) → (x0_1 = a2) → -9223372036854775808 ≤ (x0_1 + 1) ∧ (x0_1 + 1) ≤ 9223372036854775807
  n12 : ∀ x0_0 x0_1, I0 x0_0 x0_1 → (x0_1 < (a1.length : Int)) → (x0_1 = a2) → I0 x0_0 (x0_1 + 1) ∧ m0 x0_0 (x0_1 + 1) < m0 x0_0 x0_1
  g13 : ∀ x0_0 x0_1, I0 x0_0 x0_1 → (¬ x0_1 < (a1.length : Int)) → R 0 0 = D.i x0_0
end HX

namespace HX
open Go Go.Proofs CX
structure V40 (pre : Nat → List (List D) → Prop) (fn : Nat → List (List D) → Nat → Nat → D) (a0_0 : Int) (a0_1 : Int) (a0_2 : Int) (a1 : Rows) (R : Nat → Nat → D) (I0 : Rows → Int → Int → Prop) (m0 : Rows → Int → Int → Nat) (I1 : Rows → Int → Int → Rows → Int → Prop) (m1 : Rows → Int → Int → Rows → Int → Nat) (I2 : Rows → Int → Int → Rows → Int → Int → Int → Prop) (m2 : Rows → Int → Int → Rows → Int → Int → Int → Nat) : Prop where
  g0 : pre 18 [[D.i a0_0, D.i a0_1, D.i a0_2]]
  g1 : (¬ (D.int (fn 18 [[D.i a0_0, D.i a0_1, D.i a0_2]] 0 0)) = 0) → R 0 0 = D.l []
  g2 : (¬ (D.int (fn 18 [[D.i a0_0, D.i a0_1, D.i a0_2]] 0 0)) = 0) → R 1 0 = D.i (D.int (fn 18 [[D.i a0_0, D.i a0_1, D.i a0_2]] 0 0))
  g3 : ((D.int (fn 18 [[D.i a0_0, D.i a0_1, D.i a0_2]] 0 0)) = 0) → -9223372036854775808 ≤ (a0_0 * a0_1) ∧ (a0_0 * a0_1) ≤ 9223372036854775807
  g4 : ((D.int (fn 18 [[D.i a0_0, D.i a0_1, D.i a0_2]] 0 0)) = 0) → (¬ (a1.length : Int) = (a0_0 * a0_1)) → R 0 0 = D.l []
  g5 : ((D.int (fn 18 [[D.i a0_0, D.i a0_1, D.i a0_2]] 0 0)) = 0) → (¬ (a1.length : Int) = (a0_0 * a0_1)) → R 1 0 = D.i 13
  i0 : ((D.int (fn 18 [[D.i a0_0, D.i a0_1, D.i a0_2]] 0 0)) = 0) → ((a1.length : Int) = (a0_0 * a0_1)) → I0 [] 0 0
  g7 : ∀ x0_0 x0_1 x0_2, I0 x0_0 x0_1 x0_2 → ((D.int (fn 18 [[D.i a0_0, D.i a0_1, D.i a0_2]] 0 0)) = 0) → ((a1.length : Int) = (a0_0 * a0_1)) → (x0_2 < (a1.length : Int)) → 0 ≤ x0_2
  g8 : ∀ x0_0 x0_1 x0_2, I0 x0_0 x0_1 x0_2 → ((D.int (fn 18 [[D.i a0_0, D.i a0_1, D.i a0_2]] 0 0)) = 0) → ((a1.length : Int) = (a0_0 * a0_1)) → (x0_2 < (a1.length : Int)) → x0_2 < (a1.length : Int)
  g9 : ∀ x0_0 x0_1 x0_2, I0 x0_0 x0_1 x0_2 → ((D.int (fn 18 [[D.i a0_0, D.i a0_1, D.i a0_2]] 0 0)) = 0) → ((a1.length : Int) = (a0_0 * a0_1)) → (x0_2 < (a1.length : Int)) → (((Int.toNat x0_2 : Nat) : Int)) < (a1.length : Int)
  g10 : ∀ x0_0 x0_1 x0_2, I0 x0_0 x0_1 x0_2 → ((D.int (fn 18 [[D.i a0_0, D.i a0_1, D.i a0_2]] 0 0)) = 0) → ((a1.length : Int) = (a0_0 * a0_1)) → (x0_2 < (a1.length : Int)) → ((D.int (gt a1 x0_2.toNat 0)) < 0) → R 0 0 = D.l []
  g11 : ∀ x0_0 x0_1 x0_2, I0 x0_0 x0_1 x0_2 → ((D.int (fn 18 [[D.i a0_0, D.i a0_1, D.i a0_2]] 0 0)) = 0) → ((a1.length : Int) = (a0_0 * a0_1)) → (x0_2 < (a1.length : Int)) → ((D.int (gt a1 x0_2.toNat 0)) < 0) → R 1 0 = D.i 3
  g12 : ∀ x0_0 x0_1 x0_2, I0 x0_0 x0_1 x0_2 → ((D.int (fn 18 [[D.i a0_0, D.i a0_1, D.i a0_2]] 0 0)) = 0) → ((a1.length : Int) = (a0_0 * a0_1)) → (x0_2 < (a1.length : Int)) → (¬ (D.int (gt a1 x0_2.toNat 0)) < 0) → 0 ≤ x0_2
  g13 : ∀ x0_0 x0_1 x0_2, I0 x0_0 x0_1 x0_2 → ((D.int (fn 18 [[D.i a0_0, D.i a0_1, D.i a0_2]] 0 0)) = 0) → ((a1.length : Int) = (a0_0 * a0_1)) → (x0_2 < (a1.length : Int)) → (¬ (D.int (gt a1 x0_2.toNat 0)) < 0) → x0_2 < (a1.length : Int)
  g14 : ∀ x0_0 x0_1 x0_2, I0 x0_0 x0_1 x0_2 → ((D.int (fn 18 [[D.i a0_0, D.i a0_1, D.i a0_2]] 0 0)) = 0) → ((a1.length : Int) = (a0_0 * a0_1)) → (x0_2 < (a1.length : Int)) → (¬ (D.int (gt a1 x0_2.toNat 0)) < 0) → (((Int.toNat x0_2 : Nat) : Int)) < (a1.length : Int)
  g15 : ∀ x0_0 x0_1 x0_2, I0 x0_0 x0_1 x0_2 → ((D.int (fn 18 [[D.i a0_0, D.i a0_1, D.i a0_2]] 0 0)) = 0) → ((a1.length : Int) = (a0_0 * a0_1)) → (x0_2 < (a1.length : Int)) → (¬ (D.int (gt a1 x0_2.toNat 0)) < 0) → (10000 < (D.int (gt a1 x0_2.toNat 0))) → R 0 0 = D.l []
  g16 : ∀ x0_0 x0_1 x0_2, I0 x0_0 x0_1 x0_2 → ((D.int (fn 18 [[D.i a0_0, D.i a0_1, D.i a0_2]] 0 0)) = 0) → ((a1.length : Int) = (a0_0 * a0_1)) → (x0_2 < (a1.length : Int)) → (¬ (D.int (gt a1 x0_2.toNat 0)) < 0) → (10000 < (D.int (gt a1 x0_2.toNat 0))) → R 1 0 = D.i 3
  g17 : ∀ x0_0 x0_1 x0_2, I0 x0_0 x0_1 x0_2 → ((D.int (fn 18 [[D.i a0_0, D.i a0_1, D.i a0_2]] 0 0)) = 0) → ((a1.length : Int) = (a0_0 * a0_1)) → (x0_2 < (a1.length : Int)) → (¬ (D.int (gt a1 x0_2.toNat 0)) < 0) → (¬ 10000 < (D.int (gt a1 x0_2.toNat 0))) → -9223372036854775808 ≤ (x0_2 + 1) ∧ (x0_2 + 1) ≤ 9223372036854775807
  n18 : ∀ x0_0 x0_1 x0_2, I0 x0_0 x0_1 x0_2 → ((D.int (fn 18 [[D.i a0_0, D.i a0_1, D.i a0_2]] 0 0)) = 0) → ((a1.length : Int) = (a0_0 * a0_1)) → (x0_2 < (a1.length : Int)) → (¬ (D.int (gt a1 x0_2.toNat 0)) < 0) → (¬ 10000 < (D.int (gt a1 x0_2.toNat 0))) → I0 x0_0 x0_1 (x0_2 + 1) ∧ m0 x0_0 x0_1 (x0_2 + 1) < m0 x0_0 x0_1 x0_2
  g19 : ∀ x0_0 x0_1 x0_2, I0 x0_0 x0_1 x0_2 → ((D.int (fn 18 [[D.i a0_0, D.i a0_1, D.i a0_2]] 0 0)) = 0) → ((a1.length : Int) = (a0_0 * a0_1)) → (¬ x0_2 < (a1.length : Int)) → pre 82 [[D.i a0_0, D.i a0_1, D.i a0_2], [D.l a1], [D.i 0]]
  i1 : ∀ x0_0 x0_1 x0_2, I0 x0_0 x0_1 x0_2 → ((D.int (fn 18 [[D.i a0_0, D.i a0_1, D.i a0_2]] 0 0)) = 0) → ((a1.length : Int) = (a0_0 * a0_1)) → (¬ x0_2 < (a1.length : Int)) → I1 x0_0 x0_1 x0_2 [] 0
  i2 : ∀ x0_0 x0_1 x0_2, I0 x0_0 x0_1 x0_2 → ∀ x1_0 x1_1, I1 x0_0 x0_1 x0_2 x1_0 x1_1 → ((D.int (fn 18 [[D.i a0_0, D.i a0_1, D.i a0_2]] 0 0)) = 0) → ((a1.length : Int) = (a0_0 * a0_1)) → (¬ x0_2 < (a1.length : Int)) → (x1_1 < (a1.length : Int)) → I2 x0_0 x0_1 x0_2 x1_0 x1_1 (D.int (fn 82 [[D.i a0_0, D.i a0_1, D.i a0_2], [D.l a1], [D.i 0]] 0 0)) x1_1
  g22 : ∀ x0_0 x0_1 x0_2, I0 x0_0 x0_1 x0_2 → ∀ x1_0 x1_1, I1 x0_0 x0_1 x0_2 x1_0 x1_1 → ∀ x2_0 x2_1, I2 x0_0 x0_1 x0_2 x1_0 x1_1 x2_0 x2_1 → ((D.int (fn 18 [[D.i a0_0, D.i a0_1, D.i a0_2]] 0 0)) = 0) → ((a1.length : Int) = (a0_0 * a0_1)) → (¬ x0_2 < (a1.length : Int)) → (x1_1 < (a1.length : Int)) → (0 < x2_1) → -9223372036854775808 ≤ (x2_0 + 1) ∧ (x2_0 + 1) ≤ 9223372036854775807
  g23 : ∀ x0_0 x0_1 x0_2, I0 x0_0 x0_1 x0_2 → ∀ x1_0 x1_1, I1 x0_0 x0_1 x0_2 x1_0 x1_1 → ∀ x2_0 x2_1, I2 x0_0 x0_1 x0_2 x1_0 x1_1 x2_0 x2_1 → ((D.int (fn 18 [[D.i a0_0, D.i a0_1, D.i a0_2]] 0 0)) = 0) → ((a1.length : Int) = (a0_0 * a0_1)) → (¬ x0_2 < (a1.length : Int)) → (x1_1 < (a1.length : Int)) → (0 < x2_1) → pre 83 [[D.i a0_0, D.i a0_1, D.i a0_2], [D.i x2_1]]
  n24 : ∀ x0_0 x0_1 x0_2, I0 x0_0 x0_1 x0_2 → ∀ x1_0 x1_1, I1 x0_0 x0_1 x0_2 x1_0 x1_1 → ∀ x2_0 x2_1, I2 x0_0 x0_1 x0_2 x1_0 x1_1 x2_0 x2_1 → ((D.int (fn 18 [[D.i a0_0, D.i a0_1, D.i a0_2]] 0 0)) = 0) → ((a1.length : Int) = (a0_0 * a0_1)) → (¬ x0_2 < (a1.length : Int)) → (x1_1 < (a1.length : Int)) → (0 < x2_1) → I2 x0_0 x0_1 x0_2 x1_0 x1_1 (x2_0 + 1) (D.int (fn 83 [[D.i a0_0, D.i a0_1, D.i a0_2], [D.i x2_1]] 0 0)) ∧ m2 x0_0 x0_1 x0_2 x1_0 x1_1 (x2_0 + 1) (D.int (fn 83 [[D.i a0_0, D.i a0_1, D.i a0_2], [D.i x2_1]] 0 0)) < m2 x0_0 x0_1 x0_2 x1_0 x1_1 x2_0 x2_1
  g25 : ∀ x0_0 x0_1 x0_2, I0 x0_0 x0_1 x0_2 → ∀ x1_0 x1_1, I1 x0_0 x0_1 x0_2 x1_0 x1_1 → ∀ x2_0 x2_1, I2 x0_0 x0_1 x0_2 x1_0 x1_1 x2_0 x2_1 → ((D.int (fn 18 [[D.i a0_0, D.i a0_1, D.i a0_2]] 0 0)) = 0) → ((a1.length : Int) = (a0_0 * a0_1)) → (¬ x0_2 < (a1.length : Int)) → (x1_1 < (a1.length : Int)) → (¬ 0 < x2_1) → (x1_0.length + (List.length ([[D.i x2_0]] : Rows))) * 8 ≤ 4294967296 ∧ (x1_0.length + (List.length ([[D.i x2_0]] : Rows))) ≤ 4294967296
  g26 : ∀ x0_0 x0_1 x0_2, I0 x0_0 x0_1 x0_2 → ∀ x1_0 x1_1, I1 x0_0 x0_1 x0_2 x1_0 x1_1 → ∀ x2_0 x2_1, I2 x0_0 x0_1 x0_2 x1_0 x1_1 x2_0 x2_1 → ((D.int (fn 18 [[D.i a0_0, D.i a0_1, D.i a0_2]] 0 0)) = 0) → ((a1.length : Int) = (a0_0 * a0_1)) → (¬ x0_2 < (a1.length : Int)) → (x1_1 < (a1.length : Int)) → (¬ 0 < x2_1) → -9223372036854775808 ≤ (x1_1 + 1) ∧ (x1_1 + 1) ≤ 9223372036854775807
  n27 : ∀ x0_0 x0_1 x0_2, I0 x0_0 x0_1 x0_2 → ∀ x1_0 x1_1, I1 x0_0 x0_1 x0_2 x1_0 x1_1 → ∀ x2_0 x2_1, I2 x0_0 x0_1 x0_2 x1_0 x1_1 x2_0 x2_1 → ((D.int (fn 18 [[D.i a0_0, D.i a0_1, D.i a0_2]] 0 0)) = 0) → ((a1.length : Int) = (a0_0 * a0_1)) → (¬ x0_2 < (a1.length : Int)) → (x1_1 < (a1.length : Int)) → (¬ 0 < x2_1) → I1 x0_0 x0_1 x0_2 (x1_0 ++ [[D.i x2_0]]) (x1_1 + 1) ∧ m1 x0_0 x0_1 x0_2 (x1_0 ++ [[D.i x2_0]]) (x1_1 + 1) < m1 x0_0 x0_1 x0_2 x1_0 x1_1
  g28 : ∀ x0_0 x0_1 x0_2, I0 x0_0 x0_1 x0_2 → ∀ x1_0 x1_1, I1 x0_0 x0_1 x0_2 x1_0 x1_1 → ((D.int (fn 18 [[D.i a0_0, D.i a0_1, D.i a0_2]] 0 0)) = 0) → ((a1.length : Int) = (a0_0 * a0_1)) → (¬ x0_2 < (a1.length : Int)) → (¬ x1_1 < (a1.length : Int)) → R 0 0 = D.l x1_0
  g29 : ∀ x0_0 x0_1 x0_2, I0 x0_0 x0_1 x0_2 → ∀ x1_0 x1_1, I1 x0_0 x0_1 x0_2 x1_0 x1_1 → ((D.int (fn 18 [[D.i a0_0, D.i a0_1, D.i a0_2]] 0 0)) = 0) → ((a1.length : Int) = (a0_0 * a0_1)) → (¬ x0_2 < (a1.length : Int)) → (¬ x1_1 < (a1.length : Int)) → R 1 0 = D.i 0
end HX

namespace HX
open Go Go.Proofs CX
structure V21 (a0 : Rows) (a1 : Rows) (R : Nat → Nat → D) (I0 : Bool → Int → Prop) (m0 : Bool → Int → Nat) : Prop where
  g0 : (¬ (a0.length : Int) = (a1.length : Int)) → R 0 0 = D.b false
  i0 : ((a0.length : Int) = (a1.length : Int)) → I0 false 0
  g2 : ∀ x0_0 x0_1, I0 x0_0 x0_1 → ((a0.length : Int) = (a1.length : Int)) → (x0_1 < (a0.length : Int)) → 0 ≤ x0_1
  g3 : ∀ x0_0 x0_1, I0 x0_0 x0_1 → ((a0.length : Int) = (a1.length : Int)) → (x0_1 < (a0.length : Int)) → x0_1 < (a0.length : Int)
  g4 : ∀ x0_0 x0_1, I0 x0_0 x0_1 → ((a0.length : Int) = (a1.length : Int)) → (x0_1 < (a0.length : Int)) → (((Int.toNat x0_1 : Nat) : Int)) < (a0.length : Int)
  g6 : ∀ x0_0 x0_1, I0 x0_0 x0_1 → ((a0.length : Int) = (a1.length : Int)) → (x0_1 < (a0.length : Int)) → x0_1 < (a1.length : Int)
  g7 : ∀ x0_0 x0_1, I0 x0_0 x0_1 → ((a0.length : Int) = (a1.length : Int)) → (x0_1 < (a0.length : Int)) → (((Int.toNat x0_1 : Nat) : Int)) < (a1.length : Int)
  g8 : ∀ x0_0 x0_1, I0 x0_0 x0_1 → ((a0.length : Int) = (a1.length : Int)) → (x0_1 < (a0.length : Int)) → (¬ (D.int (gt a0 x0_1.toNat 0)) = (D.int (gt a1 x0_1.toNat 0))) → R 0 0 = D.b false
  g9 : ∀ x0_0 x0_1, I0 x0_0 x0_1 → ((a0.length : Int) = (a1.length : Int)) → (x0_1 < (a0.length : Int)) → ((D.int (gt a0 x0_1.toNat 0)) = (D.int (gt a1 x0_1.toNat 0))) → -9223372036854775808 ≤ (x0_1 + 1) ∧ (x0_1 + 1) ≤ 9223372036854775807
  n10 : ∀ x0_0 x0_1, I0 x0_0 x0_1 → ((a0.length : Int) = (a1.length : Int)) → (x0_1 < (a0.length : Int)) → ((D.int (gt a0 x0_1.toNat 0)) = (D.int (gt a1 x0_1.toNat 0))) → I0 x0_0 (x0_1 + 1) ∧ m0 x0_0 (x0_1 + 1) < m0 x0_0 x0_1
  g11 : ∀ x0_0 x0_1, I0 x0_0 x0_1 → ((a0.length : Int) = (a1.length : Int)) → (¬ x0_1 < (a0.length : Int)) → R 0 0 = D.b true
end HX

namespace HX
open Go Go.Proofs CX
structure V12 (pre : Nat → List (List D) → Prop) (fn : Nat → List (List D) → Nat → Nat → D) (a0 : Int) (a1 : Int) (a2 : Rows) (a3 : Int) (R : Nat → Nat → D) (I0 : Int → Int → Rows → Rows → Prop) (m0 : Int → Int → Rows → Rows → Nat) (I1 : Int → Int → Rows → Rows → Bool → Int → Prop) (m1 : Int → Int → Rows → Rows → Bool → Int → Nat) : Prop where
  g0 : -9223372036854775808 ≤ a0 ∧ a0 ≤ 9223372036854775807
  g1 : (8 : Int) ≠ 0
  g2 : -9223372036854775808 ≤ (1 + (Int.tmod a0 8)) ∧ (1 + (Int.tmod a0 8)) ≤ 9223372036854775807
  g3 : -9223372036854775808 ≤ a1 ∧ a1 ≤ 9223372036854775807
  g5 : -9223372036854775808 ≤ (1 + (Int.tmod a1 8)) ∧ (1 + (Int.tmod a1 8)) ≤ 9223372036854775807
  g6 : -9223372036854775808 ≤ ((1 + (Int.tmod a0 8)) * (1 + (Int.tmod a1 8))) ∧ ((1 + (Int.tmod a0 8)) * (1 + (Int.tmod a1 8))) ≤ 9223372036854775807
  g7 : 0 ≤ ((1 + (Int.tmod a0 8)) * (1 + (Int.tmod a1 8)))
  g8 : ((1 + (Int.tmod a0 8)) * (1 + (Int.tmod a1 8))) ≤ ((1 + (Int.tmod a0 8)) * (1 + (Int.tmod a1 8)))
  g9 : (((1 + (Int.tmod a0 8)) * (1 + (Int.tmod a1 8))) * (Int.ofNat 1)) ≤ 4096
  g10 : (((1 + (Int.tmod a0 8)) * (1 + (Int.tmod a1 8))) * (Int.ofNat 8)) ≤ 140737488355328
  i0 : I0 0 0 (List.replicate (Int.toNat ((1 + (Int.tmod a0 8)) * (1 + (Int.tmod a1 8)))) [D.i 0]) (List.replicate (Int.toNat ((1 + (Int.tmod a0 8)) * (1 + (Int.tmod a1 8)))) [D.i 0])
  g16 : ∀ x0_0 x0_1 x0_2 x0_3, I0 x0_0 x0_1 x0_2 x0_3 → (x0_1 < ((1 + (Int.tmod a0 8)) * (1 + (Int.tmod a1 8)))) → (0 < (a2.length : Int)) → (a2.length : Int) ≠ 0
  g17 : ∀ x0_0 x0_1 x0_2 x0_3, I0 x0_0 x0_1 x0_2 x0_3 → (x0_1 < ((1 + (Int.tmod a0 8)) * (1 + (Int.tmod a1 8)))) → (0 < (a2.length : Int)) → 0 ≤ (Int.tmod x0_1 (a2.length : Int))
  g18 : ∀ x0_0 x0_1 x0_2 x0_3, I0 x0_0 x0_1 x0_2 x0_3 → (x0_1 < ((1 + (Int.tmod a0 8)) * (1 + (Int.tmod a1 8)))) → (0 < (a2.length : Int)) → (Int.tmod x0_1 (a2.length : Int)) < (a2.length : Int)
  g19 : ∀ x0_0 x0_1 x0_2 x0_3, I0 x0_0 x0_1 x0_2 x0_3 → (x0_1 < ((1 + (Int.tmod a0 8)) * (1 + (Int.tmod a1 8)))) → (0 < (a2.length : Int)) → (((Int.toNat (Int.tmod x0_1 (a2.length : Int)) : Nat) : Int)) < (a2.length : Int)
  g20 : ∀ x0_0 x0_1 x0_2 x0_3, I0 x0_0 x0_1 x0_2 x0_3 → (x0_1 < ((1 + (Int.tmod a0 8)) * (1 + (Int.tmod a1 8)))) → (0 < (a2.length : Int)) → -9223372036854775808 ≤ (D.int (gt a2 (Int.toNat (Int.tmod x0_1 (a2.length : Int))) 0)) ∧ (D.int (gt a2 (Int.toNat (Int.tmod x0_1 (a2.length : Int))) 0)) ≤ 9223372036854775807
  g21 : ∀ x0_0 x0_1 x0_2 x0_3, I0 x0_0 x0_1 x0_2 x0_3 → (x0_1 < ((1 + (Int.tmod a0 8)) * (1 + (Int.tmod a1 8)))) → (0 < (a2.length : Int)) → 0 ≤ x0_1
  g22 : ∀ x0_0 x0_1 x0_2 x0_3, I0 x0_0 x0_1 x0_2 x0_3 → (x0_1 < ((1 + (Int.tmod a0 8)) * (1 + (Int.tmod a1 8)))) → (0 < (a2.length : Int)) → x0_1 < (x0_2.length : Int)
  g23 : ∀ x0_0 x0_1 x0_2 x0_3, I0 x0_0 x0_1 x0_2 x0_3 → (x0_1 < ((1 + (Int.tmod a0 8)) * (1 + (Int.tmod a1 8)))) → (0 < (a2.length : Int)) → (((Int.toNat x0_1 : Nat) : Int)) < (x0_2.length : Int)
  g25 : ∀ x0_0 x0_1 x0_2 x0_3, I0 x0_0 x0_1 x0_2 x0_3 → (x0_1 < ((1 + (Int.tmod a0 8)) * (1 + (Int.tmod a1 8)))) → (0 < (a2.length : Int)) → x0_1 < ((((List.set x0_2 x0_1.toNat [D.i (D.int (gt a2 (Int.toNat (Int.tmod x0_1 (a2.length : Int))) 0))])).length : Int))
  g26 : ∀ x0_0 x0_1 x0_2 x0_3, I0 x0_0 x0_1 x0_2 x0_3 → (x0_1 < ((1 + (Int.tmod a0 8)) * (1 + (Int.tmod a1 8)))) → (0 < (a2.length : Int)) → (((Int.toNat x0_1 : Nat) : Int)) < ((((List.set x0_2 x0_1.toNat [D.i (D.int (gt a2 (Int.toNat (Int.tmod x0_1 (a2.length : Int))) 0))])).length : Int))
  g27 : ∀ x0_0 x0_1 x0_2 x0_3, I0 x0_0 x0_1 x0_2 x0_3 → (x0_1 < ((1 + (Int.tmod a0 8)) * (1 + (Int.tmod a1 8)))) → (0 < (a2.length : Int)) → -9223372036854775808 ≤ a3 ∧ a3 ≤ 9223372036854775807
  g28 : ∀ x0_0 x0_1 x0_2 x0_3, I0 x0_0 x0_1 x0_2 x0_3 → (x0_1 < ((1 + (Int.tmod a0 8)) * (1 + (Int.tmod a1 8)))) → (0 < (a2.length : Int)) → -9223372036854775808 ≤ ((D.int (gt (List.set x0_2 x0_1.toNat [D.i (D.int (gt a2 (Int.toNat (Int.tmod x0_1 (a2.length : Int))) 0))]) x0_1.toNat 0)) + a3) ∧ ((D.int (gt (List.set x0_2 x0_1.toNat [D.i (D.int (gt a2 (Int.toNat (Int.tmod x0_1 (a2.length : Int))) 0))]) x0_1.toNat 0)) + a3) ≤ 9223372036854775807
  g30 : ∀ x0_0 x0_1 x0_2 x0_3, I0 x0_0 x0_1 x0_2 x0_3 → (x0_1 < ((1 + (Int.tmod a0 8)) * (1 + (Int.tmod a1 8)))) → (0 < (a2.length : Int)) → x0_1 < (x0_3.length : Int)
  g31 : ∀ x0_0 x0_1 x0_2 x0_3, I0 x0_0 x0_1 x0_2 x0_3 → (x0_1 < ((1 + (Int.tmod a0 8)) * (1 + (Int.tmod a1 8)))) → (0 < (a2.length : Int)) → (((Int.toNat x0_1 : Nat) : Int)) < (x0_3.length : Int)
  g35 : ∀ x0_0 x0_1 x0_2 x0_3, I0 x0_0 x0_1 x0_2 x0_3 → (x0_1 < ((1 + (Int.tmod a0 8)) * (1 + (Int.tmod a1 8)))) → (0 < (a2.length : Int)) → -9223372036854775808 ≤ (x0_1 + 1) ∧ (x0_1 + 1) ≤ 9223372036854775807
  n36 : ∀ x0_0 x0_1 x0_2 x0_3, I0 x0_0 x0_1 x0_2 x0_3 → (x0_1 < ((1 + (Int.tmod a0 8)) * (1 + (Int.tmod a1 8)))) → (0 < (a2.length : Int)) → I0 (mxI x0_0 (D.int (gt (List.set x0_2 x0_1.toNat [D.i (D.int (gt a2 (Int.toNat (Int.tmod x0_1 (a2.length : Int))) 0))]) x0_1.toNat 0))) (x0_1 + 1) (List.set x0_2 x0_1.toNat [D.i (D.int (gt a2 (Int.toNat (Int.tmod x0_1 (a2.length : Int))) 0))]) (List.set x0_3 x0_1.toNat [D.i ((D.int (gt (List.set x0_2 x0_1.toNat [D.i (D.int (gt a2 (Int.toNat (Int.tmod x0_1 (a2.length : Int))) 0))]) x0_1.toNat 0)) + a3)]) ∧ m0 (mxI x0_0 (D.int (gt (List.set x0_2 x0_1.toNat [D.i (D.int (gt a2 (Int.toNat (Int.tmod x0_1 (a2.length : Int))) 0))]) x0_1.toNat 0))) (x0_1 + 1) (List.set x0_2 x0_1.toNat [D.i (D.int (gt a2 (Int.toNat (Int.tmod x0_1 (a2.length : Int))) 0))]) (List.set x0_3 x0_1.toNat [D.i ((D.int (gt (List.set x0_2 x0_1.toNat [D.i (D.int (gt a2 (Int.toNat (Int.tmod x0_1 (a2.length : Int))) 0))]) x0_1.toNat 0)) + a3)]) < m0 x0_0 x0_1 x0_2 x0_3
  g37 : ∀ x0_0 x0_1 x0_2 x0_3, I0 x0_0 x0_1 x0_2 x0_3 → (x0_1 < ((1 + (Int.tmod a0 8)) * (1 + (Int.tmod a1 8)))) → (¬ 0 < (a2.length : Int)) → 0 ≤ x0_1
  g38 : ∀ x0_0 x0_1 x0_2 x0_3, I0 x0_0 x0_1 x0_2 x0_3 → (x0_1 < ((1 + (Int.tmod a0 8)) * (1 + (Int.tmod a1 8)))) → (¬ 0 < (a2.length : Int)) → x0_1 < (x0_2.length : Int)
  g39 : ∀ x0_0 x0_1 x0_2 x0_3, I0 x0_0 x0_1 x0_2 x0_3 → (x0_1 < ((1 + (Int.tmod a0 8)) * (1 + (Int.tmod a1 8)))) → (¬ 0 < (a2.length : Int)) → (((Int.toNat x0_1 : Nat) : Int)) < (x0_2.length : Int)
  g40 : ∀ x0_0 x0_1 x0_2 x0_3, I0 x0_0 x0_1 x0_2 x0_3 → (x0_1 < ((1 + (Int.tmod a0 8)) * (1 + (Int.tmod a1 8)))) → (¬ 0 < (a2.length : Int)) → -9223372036854775808 ≤ a3 ∧ a3 ≤ 9223372036854775807
  g41 : ∀ x0_0 x0_1 x0_2 x0_3, I0 x0_0 x0_1 x0_2 x0_3 → (x0_1 < ((1 + (Int.tmod a0 8)) * (1 + (Int.tmod a1 8)))) → (¬ 0 < (a2.length : Int)) → -9223372036854775808 ≤ ((D.int (gt x0_2 x0_1.toNat 0)) + a3) ∧ ((D.int (gt x0_2 x0_1.toNat 0)) + a3) ≤ 9223372036854775807
  g43 : ∀ x0_0 x0_1 x0_2 x0_3, I0 x0_0 x0_1 x0_2 x0_3 → (x0_1 < ((1 + (Int.tmod a0 8)) * (1 + (Int.tmod a1 8)))) → (¬ 0 < (a2.length : Int)) → x0_1 < (x0_3.length : Int)
  g44 : ∀ x0_0 x0_1 x0_2 x0_3, I0 x0_0 x0_1 x0_2 x0_3 → (x0_1 < ((1 + (Int.tmod a0 8)) * (1 + (Int.tmod a1 8)))) → (¬ 0 < (a2.length : Int)) → (((Int.toNat x0_1 : Nat) : Int)) < (x0_3.length : Int)
  g48 : ∀ x0_0 x0_1 x0_2 x0_3, I0 x0_0 x0_1 x0_2 x0_3 → (x0_1 < ((1 + (Int.tmod a0 8)) * (1 + (Int.tmod a1 8)))) → (¬ 0 < (a2.length : Int)) → -9223372036854775808 ≤ (x0_1 + 1) ∧ (x0_1 + 1) ≤ 9223372036854775807
  n49 : ∀ x0_0 x0_1 x0_2 x0_3, I0 x0_0 x0_1 x0_2 x0_3 → (x0_1 < ((1 + (Int.tmod a0 8)) * (1 + (Int.tmod a1 8)))) → (¬ 0 < (a2.length : Int)) → I0 (mxI x0_0 (D.int (gt x0_2 x0_1.toNat 0))) (x0_1 + 1) x0_2 (List.set x0_3 x0_1.toNat [D.i ((D.int (gt x0_2 x0_1.toNat 0)) + a3)]) ∧ m0 (mxI x0_0 (D.int (gt x0_2 x0_1.toNat 0))) (x0_1 + 1) x0_2 (List.set x0_3 x0_1.toNat [D.i ((D.int (gt x0_2 x0_1.toNat 0)) + a3)]) < m0 x0_0 x0_1 x0_2 x0_3
  g50 : ∀ x0_0 x0_1 x0_2 x0_3, I0 x0_0 x0_1 x0_2 x0_3 → (¬ x0_1 < ((1 + (Int.tmod a0 8)) * (1 + (Int.tmod a1 8)))) → pre 39 [[D.i (1 + (Int.tmod a0 8)), D.i (1 + (Int.tmod a1 8)), D.i 1], [D.l x0_2]]
  g51 : ∀ x0_0 x0_1 x0_2 x0_3, I0 x0_0 x0_1 x0_2 x0_3 → (¬ x0_1 < ((1 + (Int.tmod a0 8)) * (1 + (Int.tmod a1 8)))) → pre 39 [[D.i (1 + (Int.tmod a0 8)), D.i (1 + (Int.tmod a1 8)), D.i 1], [D.l x0_3]]
  g52 : ∀ x0_0 x0_1 x0_2 x0_3, I0 x0_0 x0_1 x0_2 x0_3 → (¬ x0_1 < ((1 + (Int.tmod a0 8)) * (1 + (Int.tmod a1 8)))) → (¬ (D.int (fn 39 [[D.i (1 + (Int.tmod a0 8)), D.i (1 + (Int.tmod a1 8)), D.i 1], [D.l x0_2]] 1 0)) = 0) → R 0 0 = D.b false
  g53 : ∀ x0_0 x0_1 x0_2 x0_3, I0 x0_0 x0_1 x0_2 x0_3 → (¬ x0_1 < ((1 + (Int.tmod a0 8)) * (1 + (Int.tmod a1 8)))) → ((D.int (fn 39 [[D.i (1 + (Int.tmod a0 8)), D.i (1 + (Int.tmod a1 8)), D.i 1], [D.l x0_2]] 1 0)) = 0) → (¬ (D.int (fn 39 [[D.i (1 + (Int.tmod a0 8)), D.i (1 + (Int.tmod a1 8)), D.i 1], [D.l x0_3]] 1 0)) = 0) → R 0 0 = D.b false
  g54 : ∀ x0_0 x0_1 x0_2 x0_3, I0 x0_0 x0_1 x0_2 x0_3 → (¬ x0_1 < ((1 + (Int.tmod a0 8)) * (1 + (Int.tmod a1 8)))) → ((D.int (fn 39 [[D.i (1 + (Int.tmod a0 8)), D.i (1 + (Int.tmod a1 8)), D.i 1], [D.l x0_2]] 1 0)) = 0) → ((D.int (fn 39 [[D.i (1 + (Int.tmod a0 8)), D.i (1 + (Int.tmod a1 8)), D.i 1], [D.l x0_3]] 1 0)) = 0) → (¬ ((((D.rows (fn 39 [[D.i (1 + (Int.tmod a0 8)), D.i (1 + (Int.tmod a1 8)), D.i 1], [D.l x0_2]] 0 0))).length : Int)) = ((1 + (Int.tmod a0 8)) * (1 + (Int.tmod a1 8)))) → R 0 0 = D.b false
  g55 : ∀ x0_0 x0_1 x0_2 x0_3, I0 x0_0 x0_1 x0_2 x0_3 → (¬ x0_1 < ((1 + (Int.tmod a0 8)) * (1 + (Int.tmod a1 8)))) → ((D.int (fn 39 [[D.i (1 + (Int.tmod a0 8)), D.i (1 + (Int.tmod a1 8)), D.i 1], [D.l x0_2]] 1 0)) = 0) → ((D.int (fn 39 [[D.i (1 + (Int.tmod a0 8)), D.i (1 + (Int.tmod a1 8)), D.i 1], [D.l x0_3]] 1 0)) = 0) → (((((D.rows (fn 39 [[D.i (1 + (Int.tmod a0 8)), D.i (1 + (Int.tmod a1 8)), D.i 1], [D.l x0_2]] 0 0))).length : Int)) = ((1 + (Int.tmod a0 8)) * (1 + (Int.tmod a1 8)))) → (¬ ((((D.rows (fn 39 [[D.i (1 + (Int.tmod a0 8)), D.i (1 + (Int.tmod a1 8)), D.i 1], [D.l x0_3]] 0 0))).length : Int)) = ((1 + (Int.tmod a0 8)) * (1 + (Int.tmod a1 8)))) → R 0 0 = D.b false
  i1 : ∀ x0_0 x0_1 x0_2 x0_3, I0 x0_0 x0_1 x0_2 x0_3 → (¬ x0_1 < ((1 + (Int.tmod a0 8)) * (1 + (Int.tmod a1 8)))) → ((D.int (fn 39 [[D.i (1 + (Int.tmod a0 8)), D.i (1 + (Int.tmod a1 8)), D.i 1], [D.l x0_2]] 1 0)) = 0) → ((D.int (fn 39 [[D.i (1 + (Int.tmod a0 8)), D.i (1 + (Int.tmod a1 8)), D.i 1], [D.l x0_3]] 1 0)) = 0) → (((((D.rows (fn 39 [[D.i (1 + (Int.tmod a0 8)), D.i (1 + (Int.tmod a1 8)), D.i 1], [D.l x0_2]] 0 0))).length : Int)) = ((1 + (Int.tmod a0 8)) * (1 + (Int.tmod a1 8)))) → (((((D.rows (fn 39 [[D.i (1 + (Int.tmod a0 8)), D.i (1 + (Int.tmod a1 8)), D.i 1], [D.l x0_3]] 0 0))).length : Int)) = ((1 + (Int.tmod a0 8)) * (1 + (Int.tmod a1 8)))) → I1 x0_0 x0_1 x0_2 x0_3 false 0
  g57 : ∀ x0_0 x0_1 x0_2 x0_3, I0 x0_0 x0_1 x0_2 x0_3 → ∀ x1_0 x1_1, I1 x0_0 x0_1 x0_2 x0_3 x1_0 x1_1 → (¬ x0_1 < ((1 + (Int.tmod a0 8)) * (1 + (Int.tmod a1 8)))) → ((D.int (fn 39 [[D.i (1 + (Int.tmod a0 8)), D.i (1 + (Int.tmod a1 8)), D.i 1], [D.l x0_2]] 1 0)) = 0) → ((D.int (fn 39 [[D.i (1 + (Int.tmod a0 8)), D.i (1 + (Int.tmod a1 8)), D.i 1], [D.l x0_3]] 1 0)) = 0) → (((((D.rows (fn 39 [[D.i (1 + (Int.tmod a0 8)), D.i (1 + (Int.tmod a1 8)), D.i 1], [D.l x0_2]] 0 0))).length : Int)) = ((1 + (Int.tmod a0 8)) * (1 + (Int.tmod a1 8)))) → (((((D.rows (fn 39 [[D.i (1 + (Int.tmod a0 8)), D.i (1 + (Int.tmod a1 8)), D.i 1], [D.l x0_3]] 0 0))).length : Int)) = ((1 + (Int.tmod a0 8)) * (1 + (Int.tmod a1 8)))) → (x1_1 < ((1 + (Int.tmod a0 8)) * (1 + (Int.tmod a1 8)))) → 0 ≤ x1_1
  g58 : ∀ x0_0 x0_1 x0_2 x0_3, I0 x0_0 x0_1 x0_2 x0_3 → ∀ x1_0 x1_1, I1 x0_0 x0_1 x0_2 x0_3 x1_0 x1_1 → (¬ x0_1 < ((1 + (Int.tmod a0 8)) * (1 + (Int.tmod a1 8)))) → ((D.int (fn 39 [[D.i (1 + (Int.tmod a0 8)), D.i (1 + (Int.tmod a1 8)), D.i 1], [D.l x0_2]] 1 0)) = 0) → ((D.int (fn 39 [[D.i (1 + (Int.tmod a0 8)), D.i (1 + (Int.tmod a1 8)), D.i 1], [D.l x0_3]] 1 0)) = 0) → (((((D.rows (fn 39 [[D.i (1 + (Int.tmod a0 8)), D.i (1 + (Int.tmod a1 8)), D.i 1], [D.l x0_2]] 0 0))).length : Int)) = ((1 + (Int.tmod a0 8)) * (1 + (Int.tmod a1 8)))) → (((((D.rows (fn 39 [[D.i (1 + (Int.tmod a0 8)), D.i (1 + (Int.tmod a1 8)), D.i 1], [D.l x0_3]] 0 0))).length : Int)) = ((1 + (Int.tmod a0 8)) * (1 + (Int.tmod a1 8)))) → (x1_1 < ((1 + (Int.tmod a0 8)) * (1 + (Int.tmod a1 8)))) → x1_1 < ((((D.rows (fn 39 [[D.i (1 + (Int.tmod a0 8)), D.i (1 + (Int.tmod a1 8)), D.i 1], [D.l x0_2]] 0 0))).length : Int))
  g59 : ∀ x0_0 x0_1 x0_2 x0_3, I0 x0_0 x0_1 x0_2 x0_3 → ∀ x1_0 x1_1, I1 x0_0 x0_1 x0_2 x0_3 x1_0 x1_1 → (¬ x0_1 < ((1 + (Int.tmod a0 8)) * (1 + (Int.tmod a1 8)))) → ((D.int (fn 39 [[D.i (1 + (Int.tmod a0 8)), D.i (1 + (Int.tmod a1 8)), D.i 1], [D.l x0_2]] 1 0)) = 0) → ((D.int (fn 39 [[D.i (1 + (Int.tmod a0 8)), D.i (1 + (Int.tmod a1 8)), D.i 1], [D.l x0_3]] 1 0)) = 0) → (((((D.rows (fn 39 [[D.i (1 + (Int.tmod a0 8)), D.i (1 + (Int.tmod a1 8)), D.i 1], [D.l x0_2]] 0 0))).length : Int)) = ((1 + (Int.tmod a0 8)) * (1 + (Int.tmod a1 8)))) → (((((D.rows (fn 39 [[D.i (1 + (Int.tmod a0 8)), D.i (1 + (Int.tmod a1 8)), D.i 1], [D.l x0_3]] 0 0))).length : Int)) = ((1 + (Int.tmod a0 8)) * (1 + (Int.tmod a1 8)))) → (x1_1 < ((1 + (Int.tmod a0 8)) * (1 + (Int.tmod a1 8)))) → (((Int.toNat x1_1 : Nat) : Int)) < ((((D.rows (fn 39 [[D.i (1 + (Int.tmod a0 8)), D.i (1 + (Int.tmod a1 8)), D.i 1], [D.l x0_2]] 0 0))).length : Int))
  g60 : ∀ x0_0 x0_1 x0_2 x0_3, I0 x0_0 x0_1 x0_2 x0_3 → ∀ x1_0 x1_1, I1 x0_0 x0_1 x0_2 x0_3 x1_0 x1_1 → (¬ x0_1 < ((1 + (Int.tmod a0 8)) * (1 + (Int.tmod a1 8)))) → ((D.int (fn 39 [[D.i (1 + (Int.tmod a0 8)), D.i (1 + (Int.tmod a1 8)), D.i 1], [D.l x0_2]] 1 0)) = 0) → ((D.int (fn 39 [[D.i (1 + (Int.tmod a0 8)), D.i (1 + (Int.tmod a1 8)), D.i 1], [D.l x0_3]] 1 0)) = 0) → (((((D.rows (fn 39 [[D.i (1 + (Int.tmod a0 8)), D.i (1 + (Int.tmod a1 8)), D.i 1], [D.l x0_2]] 0 0))).length : Int)) = ((1 + (Int.tmod a0 8)) * (1 + (Int.tmod a1 8)))) → (((((D.rows (fn 39 [[D.i (1 + (Int.tmod a0 8)), D.i (1 + (Int.tmod a1 8)), D.i 1], [D.l x0_3]] 0 0))).length : Int)) = ((1 + (Int.tmod a0 8)) * (1 + (Int.tmod a1 8)))) → (x1_1 < ((1 + (Int.tmod a0 8)) * (1 + (Int.tmod a1 8)))) → ((D.int (gt (D.rows (fn 39 [[D.i (1 + (Int.tmod a0 8)), D.i (1 + (Int.tmod a1 8)), D.i 1], [D.l x0_2]] 0 0)) x1_1.toNat 0)) < x0_0) → R 0 0 = D.b false
  g61 : ∀ x0_0 x0_1 x0_2 x0_3, I0 x0_0 x0_1 x0_2 x0_3 → ∀ x1_0 x1_1, I1 x0_0 x0_1 x0_2 x0_3 x1_0 x1_1 → (¬ x0_1 < ((1 + (Int.tmod a0 8)) * (1 + (Int.tmod a1 8)))) → ((D.int (fn 39 [[D.i (1 + (Int.tmod a0 8)), D.i (1 + (Int.tmod a1 8)), D.i 1], [D.l x0_2]] 1 0)) = 0) → ((D.int (fn 39 [[D.i (1 + (Int.tmod a0 8)), D.i (1 + (Int.tmod a1 8)), D.i 1], [D.l x0_3]] 1 0)) = 0) → (((((D.rows (fn 39 [[D.i (1 + (Int.tmod a0 8)), D.i (1 + (Int.tmod a1 8)), D.i 1], [D.l x0_2]] 0 0))).length : Int)) = ((1 + (Int.tmod a0 8)) * (1 + (Int.tmod a1 8)))) → (((((D.rows (fn 39 [[D.i (1 + (Int.tmod a0 8)), D.i (1 + (Int.tmod a1 8)), D.i 1], [D.l x0_3]] 0 0))).length : Int)) = ((1 + (Int.tmod a0 8)) * (1 + (Int.tmod a1 8)))) → (x1_1 < ((1 + (Int.tmod a0 8)) * (1 + (Int.tmod a1 8)))) → (¬ (D.int (gt (D.rows (fn 39 [[D.i (1 + (Int.tmod a0 8)), D.i (1 + (Int.tmod a1 8)), D.i 1], [D.l x0_2]] 0 0)) x1_1.toNat 0)) < x0_0) → 0 ≤ x1_1
  g62 : ∀ x0_0 x0_1 x0_2 x0_3, I0 x0_0 x0_1 x0_2 x0_3 → ∀ x1_0 x1_1, I1 x0_0 x0_1 x0_2 x0_3 x1_0 x1_1 → (¬ x0_1 < ((1 + (Int.tmod a0 8)) * (1 + (Int.tmod a1 8)))) → ((D.int (fn 39 [[D.i (1 + (Int.tmod a0 8)), D.i (1 + (Int.tmod a1 8)), D.i 1], [D.l x0_2]] 1 0)) = 0) → ((D.int (fn 39 [[D.i (1 + (Int.tmod a0 8)), D.i (1 + (Int.tmod a1 8)), D.i 1], [D.l x0_3]] 1 0)) = 0) → (((((D.rows (fn 39 [[D.i (1 + (Int.tmod a0 8)), D.i (1 + (Int.tmod a1 8)), D.i 1], [D.l x0_2]] 0 0))).length : Int)) = ((1 + (Int.tmod a0 8)) * (1 + (Int.tmod a1 8)))) → (((((D.rows (fn 39 [[D.i (1 + (Int.tmod a0 8)), D.i (1 + (Int.tmod a1 8)), D.i 1], [D.l x0_3]] 0 0))).length : Int)) = ((1 + (Int.tmod a0 8)) * (1 + (Int.tmod a1 8)))) → (x1_1 < ((1 + (Int.tmod a0 8)) * (1 + (Int.tmod a1 8)))) → (¬ (D.int (gt (D.rows (fn 39 [[D.i (1 + (Int.tmod a0 8)), D.i (1 + (Int.tmod a1 8)), D.i 1], [D.l x0_2]] 0 0)) x1_1.toNat 0)) < x0_0) → x1_1 < ((((D.rows (fn 39 [[D.i (1 + (Int.tmod a0 8)), D.i (1 + (Int.tmod a1 8)), D.i 1], [D.l x0_2]] 0 0))).length : Int))
  g63 : ∀ x0_0 x0_1 x0_2 x0_3, I0 x0_0 x0_1 x0_2 x0_3 → ∀ x1_0 x1_1, I1 x0_0 x0_1 x0_2 x0_3 x1_0 x1_1 → (¬ x0_1 < ((1 + (Int.tmod a0 8)) * (1 + (Int.tmod a1 8)))) → ((D.int (fn 39 [[D.i (1 + (Int.tmod a0 8)), D.i (1 + (Int.tmod a1 8)), D.i 1], [D.l x0_2]] 1 0)) = 0) → ((D.int (fn 39 [[D.i (1 + (Int.tmod a0 8)), D.i (1 + (Int.tmod a1 8)), D.i 1], [D.l x0_3]] 1 0)) = 0) → (((((D.rows (fn 39 [[D.i (1 + (Int.tmod a0 8)), D.i (1 + (Int.tmod a1 8)), D.i 1], [D.l x0_2]] 0 0))).length : Int)) = ((1 + (Int.tmod a0 8)) * (1 + (Int.tmod a1 8)))) → (((((D.rows (fn 39 [[D.i (1 + (Int.tmod a0 8)), D.i (1 + (Int.tmod a1 8)), D.i 1], [D.l x0_3]] 0 0))).length : Int)) = ((1 + (Int.tmod a0 8)) * (1 + (Int.tmod a1 8)))) → (x1_1 < ((1 + (Int.tmod a0 8)) * (1 + (Int.tmod a1 8)))) → (¬ (D.int (gt (D.rows (fn 39 [[D.i (1 + (Int.tmod a0 8)), D.i (1 + (Int.tmod a1 8)), D.i 1], [D.l x0_2]] 0 0)) x1_1.toNat 0)) < x0_0) → (((Int.toNat x1_1 : Nat) : Int)) < ((((D.rows (fn 39 [[D.i (1 + (Int.tmod a0 8)), D.i (1 + (Int.tmod a1 8)), D.i 1], [D.l x0_2]] 0 0))).length : Int))
  g64 : ∀ x0_0 x0_1 x0_2 x0_3, I0 x0_0 x0_1 x0_2 x0_3 → ∀ x1_0 x1_1, I1 x0_0 x0_1 x0_2 x0_3 x1_0 x1_1 → (¬ x0_1 < ((1 + (Int.tmod a0 8)) * (1 + (Int.tmod a1 8)))) → ((D.int (fn 39 [[D.i (1 + (Int.tmod a0 8)), D.i (1 + (Int.tmod a1 8)), D.i 1], [D.l x0_2]] 1 0)) = 0) → ((D.int (fn 39 [[D.i (1 + (Int.tmod a0 8)), D.i (1 + (Int.tmod a1 8)), D.i 1], [D.l x0_3]] 1 0)) = 0) → (((((D.rows (fn 39 [[D.i (1 + (Int.tmod a0 8)), D.i (1 + (Int.tmod a1 8)), D.i 1], [D.l x0_2]] 0 0))).length : Int)) = ((1 + (Int.tmod a0 8)) * (1 + (Int.tmod a1 8)))) → (((((D.rows (fn 39 [[D.i (1 + (Int.tmod a0 8)), D.i (1 + (Int.tmod a1 8)), D.i 1], [D.l x0_3]] 0 0))).length : Int)) = ((1 + (Int.tmod a0 8)) * (1 + (Int.tmod a1 8)))) → (x1_1 < ((1 + (Int.tmod a0 8)) * (1 + (Int.tmod a1 8)))) → (¬ (D.int (gt (D.rows (fn 39 [[D.i (1 + (Int.tmod a0 8)), D.i (1 + (Int.tmod a1 8)), D.i 1], [D.l x0_2]] 0 0)) x1_1.toNat 0)) < x0_0) → -9223372036854775808 ≤ ((1 + (Int.tmod a0 8)) + (1 + (Int.tmod a1 8))) ∧ ((1 + (Int.tmod a0 8)) + (1 + (Int.tmod a1 8))) ≤ 9223372036854775807
  g65 : ∀ x0_0 x0_1 x0_2 x0_3, I0 x0_0 x0_1 x0_2 x0_3 → ∀ x1_0 x1_1, I1 x0_0 x0_1 x0_2 x0_3 x1_0 x1_1 → (¬ x0_1 < ((1 + (Int.tmod a0 8)) * (1 + (Int.tmod a1 8)))) → ((D.int (fn 39 [[D.i (1 + (Int.tmod a0 8)), D.i (1 + (Int.tmod a1 8)), D.i 1], [D.l x0_2]] 1 0)) = 0) → ((D.int (fn 39 [[D.i (1 + (Int.tmod a0 8)), D.i (1 + (Int.tmod a1 8)), D.i 1], [D.l x0_3]] 1 0)) = 0) → (((((D.rows (fn 39 [[D.i (1 + (Int.tmod a0 8)), D.i (1 + (Int.tmod a1 8)), D.i 1], [D.l x0_2]] 0 0))).length : Int)) = ((1 + (Int.tmod a0 8)) * (1 + (Int.tmod a1 8)))) → (((((D.rows (fn 39 [[D.i (1 + (Int.tmod a0 8)), D.i (1 + (Int.tmod a1 8)), D.i 1], [D.l x0_3]] 0 0))).length : Int)) = ((1 + (Int.tmod a0 8)) * (1 + (Int.tmod a1 8)))) → (x1_1 < ((1 + (Int.tmod a0 8)) * (1 + (Int.tmod a1 8)))) → (¬ (D.int (gt (D.rows (fn 39 [[D.i (1 + (Int.tmod a0 8)), D.i (1 + (Int.tmod a1 8)), D.i 1], [D.l x0_2]] 0 0)) x1_1.toNat 0)) < x0_0) → -9223372036854775808 ≤ (((1 + (Int.tmod a0 8)) + (1 + (Int.tmod a1 8))) - 2) ∧ (((1 + (Int.tmod a0 8)) + (1 + (Int.tmod a1 8))) - 2) ≤ 9223372036854775807
  g66 : ∀ x0_0 x0_1 x0_2 x0_3, I0 x0_0 x0_1 x0_2 x0_3 → ∀ x1_0 x1_1, I1 x0_0 x0_1 x0_2 x0_3 x1_0 x1_1 → (¬ x0_1 < ((1 + (Int.tmod a0 8)) * (1 + (Int.tmod a1 8)))) → ((D.int (fn 39 [[D.i (1 + (Int.tmod a0 8)), D.i (1 + (Int.tmod a1 8)), D.i 1], [D.l x0_2]] 1 0)) = 0) → ((D.int (fn 39 [[D.i (1 + (Int.tmod a0 8)), D.i (1 + (Int.tmod a1 8)), D.i 1], [D.l x0_3]] 1 0)) = 0) → (((((D.rows (fn 39 [[D.i (1 + (Int.tmod a0 8)), D.i (1 + (Int.tmod a1 8)), D.i 1], [D.l x0_2]] 0 0))).length : Int)) = ((1 + (Int.tmod a0 8)) * (1 + (Int.tmod a1 8)))) → (((((D.rows (fn 39 [[D.i (1 + (Int.tmod a0 8)), D.i (1 + (Int.tmod a1 8)), D.i 1], [D.l x0_3]] 0 0))).length : Int)) = ((1 + (Int.tmod a0 8)) * (1 + (Int.tmod a1 8)))) → (x1_1 < ((1 + (Int.tmod a0 8)) * (1 + (Int.tmod a1 8)))) → (¬ (D.int (gt (D.rows (fn 39 [[D.i (1 + (Int.tmod a0 8)), D.i (1 + (Int.tmod a1 8)), D.i 1], [D.l x0_2]] 0 0)) x1_1.toNat 0)) < x0_0) → -9223372036854775808 ≤ (2 * (((1 + (Int.tmod a0 8)) + (1 + (Int.tmod a1 8))) - 2)) ∧ (2 * (((1 + (Int.tmod a0 8)) + (1 + (Int.tmod a1 8))) - 2)) ≤ 9223372036854775807
  g67 : ∀ x0_0 x0_1 x0_2 x0_3, I0 x0_0 x0_1 x0_2 x0_3 → ∀ x1_0 x1_1, I1 x0_0 x0_1 x0_2 x0_3 x1_0 x1_1 → (¬ x0_1 < ((1 + (Int.tmod a0 8)) * (1 + (Int.tmod a1 8)))) → ((D.int (fn 39 [[D.i (1 + (Int.tmod a0 8)), D.i (1 + (Int.tmod a1 8)), D.i 1], [D.l x0_2]] 1 0)) = 0) → ((D.int (fn 39 [[D.i (1 + (Int.tmod a0 8)), D.i (1 + (Int.tmod a1 8)), D.i 1], [D.l x0_3]] 1 0)) = 0) → (((((D.rows (fn 39 [[D.i (1 + (Int.tmod a0 8)), D.i (1 + (Int.tmod a1 8)), D.i 1], [D.l x0_2]] 0 0))).length : Int)) = ((1 + (Int.tmod a0 8)) * (1 + (Int.tmod a1 8)))) → (((((D.rows (fn 39 [[D.i (1 + (Int.tmod a0 8)), D.i (1 + (Int.tmod a1 8)), D.i 1], [D.l x0_3]] 0 0))).length : Int)) = ((1 + (Int.tmod a0 8)) * (1 + (Int.tmod a1 8)))) → (x1_1 < ((1 + (Int.tmod a0 8)) * (1 + (Int.tmod a1 8)))) → (¬ (D.int (gt (D.rows (fn 39 [[D.i (1 + (Int.tmod a0 8)), D.i (1 + (Int.tmod a1 8)), D.i 1], [D.l x0_2]] 0 0)) x1_1.toNat 0)) < x0_0) → -9223372036854775808 ≤ (x0_0 + (2 * (((1 + (Int.tmod a0 8)) + (1 + (Int.tmod a1 8))) - 2))) ∧ (x0_0 + (2 * (((1 + (Int.tmod a0 8)) + (1 + (Int.tmod a1 8))) - 2))) ≤ 9223372036854775807
  g68 : ∀ x0_0 x0_1 x0_2 x0_3, I0 x0_0 x0_1 x0_2 x0_3 → ∀ x1_0 x1_1, I1 x0_0 x0_1 x0_2 x0_3 x1_0 x1_1 → (¬ x0_1 < ((1 + (Int.tmod a0 8)) * (1 + (Int.tmod a1 8)))) → ((D.int (fn 39 [[D.i (1 + (Int.tmod a0 8)), D.i (1 + (Int.tmod a1 8)), D.i 1], [D.l x0_2]] 1 0)) = 0) → ((D.int (fn 39 [[D.i (1 + (Int.tmod a0 8)), D.i (1 + (Int.tmod a1 8)), D.i 1], [D.l x0_3]] 1 0)) = 0) → (((((D.rows (fn 39 [[D.i (1 + (Int.tmod a0 8)), D.i (1 + (Int.tmod a1 8)), D.i 1], [D.l x0_2]] 0 0))).length : Int)) = ((1 + (Int.tmod a0 8)) * (1 + (Int.tmod a1 8)))) → (((((D.rows (fn 39 [[D.i (1 + (Int.tmod a0 8)), D.i (1 + (Int.tmod a1 8)), D.i 1], [D.l x0_3]] 0 0))).length : Int)) = ((1 + (Int.tmod a0 8)) * (1 + (Int.tmod a1 8)))) → (x1_1 < ((1 + (Int.tmod a0 8)) * (1 + (Int.tmod a1 8)))) → (¬ (D.int (gt (D.rows (fn 39 [[D.i (1 + (Int.tmod a0 8)), D.i (1 + (Int.tmod a1 8)), D.i 1], [D.l x0_2]] 0 0)) x1_1.toNat 0)) < x0_0) → ((x0_0 + (2 * (((1 + (Int.tmod a0 8)) + (1 + (Int.tmod a1 8))) - 2))) < (D.int (gt (D.rows (fn 39 [[D.i (1 + (Int.tmod a0 8)), D.i (1 + (Int.tmod a1 8)), D.i 1], [D.l x0_2]] 0 0)) x1_1.toNat 0))) → R 0 0 = D.b false
  g69 : ∀ x0_0 x0_1 x0_2 x0_3, I0 x0_0 x0_1 x0_2 x0_3 → ∀ x1_0 x1_1, I1 x0_0 x0_1 x0_2 x0_3 x1_0 x1_1 → (¬ x0_1 < ((1 + (Int.tmod a0 8)) * (1 + (Int.tmod a1 8)))) → ((D.int (fn 39 [[D.i (1 + (Int.tmod a0 8)), D.i (1 + (Int.tmod a1 8)), D.i 1], [D.l x0_2]] 1 0)) = 0) → ((D.int (fn 39 [[D.i (1 + (Int.tmod a0 8)), D.i (1 + (Int.tmod a1 8)), D.i 1], [D.l x0_3]] 1 0)) = 0) → (((((D.rows (fn 39 [[D.i (1 + (Int.tmod a0 8)), D.i (1 + (Int.tmod a1 8)), D.i 1], [D.l x0_2]] 0 0))).length : Int)) = ((1 + (Int.tmod a0 8)) * (1 + (Int.tmod a1 8)))) → (((((D.rows (fn 39 [[D.i (1 + (Int.tmod a0 8)), D.i (1 + (Int.tmod a1 8)), D.i 1], [D.l x0_3]] 0 0))).length : Int)) = ((1 + (Int.tmod a0 8)) * (1 + (Int.tmod a1 8)))) → (x1_1 < ((1 + (Int.tmod a0 8)) * (1 + (Int.tmod a1 8)))) → (¬ (D.int (gt (D.rows (fn 39 [[D.i (1 + (Int.tmod a0 8)), D.i (1 + (Int.tmod a1 8)), D.i 1], [D.l x0_2]] 0 0)) x1_1.toNat 0)) < x0_0) → (¬ (x0_0 + (2 * (((1 + (Int.tmod a0 8)) + (1 + (Int.tmod a1 8))) - 2))) < (D.int (gt (D.rows (fn 39 [[D.i (1 + (Int.tmod a0 8)), D.i (1 + (Int.tmod a1 8)), D.i 1], [D.l x0_2]] 0 0)) x1_1.toNat 0))) → 0 ≤ x1_1
  g70 : ∀ x0_0 x0_1 x0_2 x0_3, I0 x0_0 x0_1 x0_2 x0_3 → ∀ x1_0 x1_1, I1 x0_0 x0_1 x0_2 x0_3 x1_0 x1_1 → (¬ x0_1 < ((1 + (Int.tmod a0 8)) * (1 + (Int.tmod a1 8)))) → ((D.int (fn 39 [[D.i (1 + (Int.tmod a0 8)), D.i (1 + (Int.tmod a1 8)), D.i 1], [D.l x0_2]] 1 0)) = 0) → ((D.int (fn 39 [[D.i (1 + (Int.tmod a0 8)), D.i (1 + (Int.tmod a1 8)), D.i 1], [D.l x0_3]] 1 0)) = 0) → (((((D.rows (fn 39 [[D.i (1 + (Int.tmod a0 8)), D.i (1 + (Int.tmod a1 8)), D.i 1], [D.l x0_2]] 0 0))).length : Int)) = ((1 + (Int.tmod a0 8)) * (1 + (Int.tmod a1 8)))) → (((((D.rows (fn 39 [[D.i (1 + (Int.tmod a0 8)), D.i (1 + (Int.tmod a1 8)), D.i 1], [D.l x0_3]] 0 0))).length : Int)) = ((1 + (Int.tmod a0 8)) * (1 + (Int.tmod a1 8)))) → (x1_1 < ((1 + (Int.tmod a0 8)) * (1 + (Int.tmod a1 8)))) → (¬ (D.int (gt (D.rows (fn 39 [[D.i (1 + (Int.tmod a0 8)), D.i (1 + (Int.tmod a1 8)), D.i 1], [D.l x0_2]] 0 0)) x1_1.toNat 0)) < x0_0) → (¬ (x0_0 + (2 * (((1 + (Int.tmod a0 8)) + (1 + (Int.tmod a1 8))) - 2))) < (D.int (gt (D.rows (fn 39 [[D.i (1 + (Int.tmod a0 8)), D.i (1 + (Int.tmod a1 8)), D.i 1], [D.l x0_2]] 0 0)) x1_1.toNat 0))) → x1_1 < ((((D.rows (fn 39 [[D.i (1 + (Int.tmod a0 8)), D.i (1 + (Int.tmod a1 8)), D.i 1], [D.l x0_3]] 0 0))).length : Int))
  g71 : ∀ x0_0 x0_1 x0_2 x0_3, I0 x0_0 x0_1 x0_2 x0_3 → ∀ x1_0 x1_1, I1 x0_0 x0_1 x0_2 x0_3 x1_0 x1_1 → (¬ x0_1 < ((1 + (Int.tmod a0 8)) * (1 + (Int.tmod a1 8)))) → ((D.int (fn 39 [[D.i (1 + (Int.tmod a0 8)), D.i (1 + (Int.tmod a1 8)), D.i 1], [D.l x0_2]] 1 0)) = 0) → ((D.int (fn 39 [[D.i (1 + (Int.tmod a0 8)), D.i (1 + (Int.tmod a1 8)), D.i 1], [D.l x0_3]] 1 0)) = 0) → (((((D.rows (fn 39 [[D.i (1 + (Int.tmod a0 8)), D.i (1 + (Int.tmod a1 8)), D.i 1], [D.l x0_2]] 0 0))).length : Int)) = ((1 + (Int.tmod a0 8)) * (1 + (Int.tmod a1 8)))) → (((((D.rows (fn 39 [[D.i (1 + (Int.tmod a0 8)), D.i (1 + (Int.tmod a1 8)), D.i 1], [D.l x0_3]] 0 0))).length : Int)) = ((1 + (Int.tmod a0 8)) * (1 + (Int.tmod a1 8)))) → (x1_1 < ((1 + (Int.tmod a0 8)) * (1 + (Int.tmod a1 8)))) → (¬ (D.int (gt (D.rows (fn 39 [[D.i (1 + (Int.tmod a0 8)), D.i (1 + (Int.tmod a1 8)), D.i 1], [D.l x0_2]] 0 0)) x1_1.toNat 0)) < x0_0) → (¬ (x0_0 + (2 * (((1 + (Int.tmod a0 8)) + (1 + (Int.tmod a1 8))) - 2))) < (D.int (gt (D.rows (fn 39 [[D.i (1 + (Int.tmod a0 8)), D.i (1 + (Int.tmod a1 8)), D.i 1], [D.l x0_2]] 0 0)) x1_1.toNat 0))) → (((Int.toNat x1_1 : Nat) : Int)) < ((((D.rows (fn 39 [[D.i (1 + (Int.tmod a0 8)), D.i (1 + (Int.tmod a1 8)), D.i 1], [D.l x0_3]] 0 0))).length : Int))
  g73 : ∀ x0_0 x0_1 x0_2 x0_3, I0 x0_0 x0_1 x0_2 x0_3 → ∀ x1_0 x1_1, I1 x0_0 x0_1 x0_2 x0_3 x1_0 x1_1 → (¬ x0_1 < ((1 + (Int.tmod a0 8)) * (1 + (Int.tmod a1 8)))) → ((D.int (fn 39 [[D.i (1 + (Int.tmod a0 8)), D.i (1 + (Int.tmod a1 8)), D.i 1], [D.l x0_2]] 1 0)) = 0) → ((D.int (fn 39 [[D.i (1 + (Int.tmod a0 8)), D.i (1 + (Int.tmod a1 8)), D.i 1], [D.l x0_3]] 1 0)) = 0) → (((((D.rows (fn 39 [[D.i (1 + (Int.tmod a0 8)), D.i (1 + (Int.tmod a1 8)), D.i 1], [D.l x0_2]] 0 0))).length : Int)) = ((1 + (Int.tmod a0 8)) * (1 + (Int.tmod a1 8)))) → (((((D.rows (fn 39 [[D.i (1 + (Int.tmod a0 8)), D.i (1 + (Int.tmod a1 8)), D.i 1], [D.l x0_3]] 0 0))).length : Int)) = ((1 + (Int.tmod a0 8)) * (1 + (Int.tmod a1 8)))) → (x1_1 < ((1 + (Int.tmod a0 8)) * (1 + (Int.tmod a1 8)))) → (¬ (D.int (gt (D.rows (fn 39 [[D.i (1 + (Int.tmod a0 8)), D.i (1 + (Int.tmod a1 8)), D.i 1], [D.l x0_2]] 0 0)) x1_1.toNat 0)) < x0_0) → (¬ (x0_0 + (2 * (((1 + (Int.tmod a0 8)) + (1 + (Int.tmod a1 8))) - 2))) < (D.int (gt (D.rows (fn 39 [[D.i (1 + (Int.tmod a0 8)), D.i (1 + (Int.tmod a1 8)), D.i 1], [D.l x0_2]] 0 0)) x1_1.toNat 0))) → x1_1 < ((((D.rows (fn 39 [[D.i (1 + (Int.tmod a0 8)), D.i (1 + (Int.tmod a1 8)), D.i 1], [D.l x0_2]] 0 0))).length : Int))
  g74 : ∀ x0_0 x0_1 x0_2 x0_3, I0 x0_0 x0_1 x0_2 x0_3 → ∀ x1_0 x1_1, I1 x0_0 x0_1 x0_2 x0_3 x1_0 x1_1 → (¬ x0_1 < ((1 + (Int.tmod a0 8)) * (1 + (Int.tmod a1 8)))) → ((D.int (fn 39 [[D.i (1 + (Int.tmod a0 8)), D.i (1 + (Int.tmod a1 8)), D.i 1], [D.l x0_2]] 1 0)) = 0) → ((D.int (fn 39 [[D.i (1 + (Int.tmod a0 8)), D.i (1 + (Int.tmod a1 8)), D.i 1], [D.l x0_3]] 1 0)) = 0) → (((((D.rows (fn 39 [[D.i (1 + (Int.tmod a0 8)), D.i (1 + (Int.tmod a1 8)), D.i 1], [D.l x0_2]] 0 0))).length : Int)) = ((1 + (Int.tmod a0 8)) * (1 + (Int.tmod a1 8)))) → (((((D.rows (fn 39 [[D.i (1 + (Int.tmod a0 8)), D.i (1 + (Int.tmod a1 8)), D.i 1], [D.l x0_3]] 0 0))).length : Int)) = ((1 + (Int.tmod a0 8)) * (1 + (Int.tmod a1 8)))) → (x1_1 < ((1 + (Int.tmod a0 8)) * (1 + (Int.tmod a1 8)))) → (¬ (D.int (gt (D.rows (fn 39 [[D.i (1 + (Int.tmod a0 8)), D.i (1 + (Int.tmod a1 8)), D.i 1], [D.l x0_2]] 0 0)) x1_1.toNat 0)) < x0_0) → (¬ (x0_0 + (2 * (((1 + (Int.tmod a0 8)) + (1 + (Int.tmod a1 8))) - 2))) < (D.int (gt (D.rows (fn 39 [[D.i (1 + (Int.tmod a0 8)), D.i (1 + (Int.tmod a1 8)), D.i 1], [D.l x0_2]] 0 0)) x1_1.toNat 0))) → (((Int.toNat x1_1 : Nat) : Int)) < ((((D.rows (fn 39 [[D.i (1 + (Int.tmod a0 8)), D.i (1 + (Int.tmod a1 8)), D.i 1], [D.l x0_2]] 0 0))).length : Int))
  g75 : ∀ x0_0 x0_1 x0_2 x0_3, I0 x0_0 x0_1 x0_2 x0_3 → ∀ x1_0 x1_1, I1 x0_0 x0_1 x0_2 x0_3 x1_0 x1_1 → (¬ x0_1 < ((1 + (Int.tmod a0 8)) * (1 + (Int.tmod a1 8)))) → ((D.int (fn 39 [[D.i (1 + (Int.tmod a0 8)), D.i (1 + (Int.tmod a1 8)), D.i 1], [D.l x0_2]] 1 0)) = 0) → ((D.int (fn 39 [[D.i (1 + (Int.tmod a0 8)), D.i (1 + (Int.tmod a1 8)), D.i 1], [D.l x0_3]] 1 0)) = 0) → (((((D.rows (fn 39 [[D.i (1 + (Int.tmod a0 8)), D.i (1 + (Int.tmod a1 8)), D.i 1], [D.l x0_2]] 0 0))).length : Int)) = ((1 + (Int.tmod a0 8)) * (1 + (Int.tmod a1 8)))) → (((((D.rows (fn 39 [[D.i (1 + (Int.tmod a0 8)), D.i (1 + (Int.tmod a1 8)), D.i 1], [D.l x0_3]] 0 0))).length : Int)) = ((1 + (Int.tmod a0 8)) * (1 + (Int.tmod a1 8)))) → (x1_1 < ((1 + (Int.tmod a0 8)) * (1 + (Int.tmod a1 8)))) → (¬ (D.int (gt (D.rows (fn 39 [[D.i (1 + (Int.tmod a0 8)), D.i (1 + (Int.tmod a1 8)), D.i 1], [D.l x0_2]] 0 0)) x1_1.toNat 0)) < x0_0) → (¬ (x0_0 + (2 * (((1 + (Int.tmod a0 8)) + (1 + (Int.tmod a1 8))) - 2))) < (D.int (gt (D.rows (fn 39 [[D.i (1 + (Int.tmod a0 8)), D.i (1 + (Int.tmod a1 8)), D.i 1], [D.l x0_2]] 0 0)) x1_1.toNat 0))) → -9223372036854775808 ≤ a3 ∧ a3 ≤ 9223372036854775807
  g76 : ∀ x0_0 x0_1 x0_2 x0_3, I0 x0_0 x0_1 x0_2 x0_3 → ∀ x1_0 x1_1, I1 x0_0 x0_1 x0_2 x0_3 x1_0 x1_1 → (¬ x0_1 < ((1 + (Int.tmod a0 8)) * (1 + (Int.tmod a1 8)))) → ((D.int (fn 39 [[D.i (1 + (Int.tmod a0 8)), D.i (1 + (Int.tmod a1 8)), D.i 1], [D.l x0_2]] 1 0)) = 0) → ((D.int (fn 39 [[D.i (1 + (Int.tmod a0 8)), D.i (1 + (Int.tmod a1 8)), D.i 1], [D.l x0_3]] 1 0)) = 0) → (((((D.rows (fn 39 [[D.i (1 + (Int.tmod a0 8)), D.i (1 + (Int.tmod a1 8)), D.i 1], [D.l x0_2]] 0 0))).length : Int)) = ((1 + (Int.tmod a0 8)) * (1 + (Int.tmod a1 8)))) → (((((D.rows (fn 39 [[D.i (1 + (Int.tmod a0 8)), D.i (1 + (Int.tmod a1 8)), D.i 1], [D.l x0_3]] 0 0))).length : Int)) = ((1 + (Int.tmod a0 8)) * (1 + (Int.tmod a1 8)))) → (x1_1 < ((1 + (Int.tmod a0 8)) * (1 + (Int.tmod a1 8)))) → (¬ (D.int (gt (D.rows (fn 39 [[D.i (1 + (Int.tmod a0 8)), D.i (1 + (Int.tmod a1 8)), D.i 1], [D.l x0_2]] 0 0)) x1_1.toNat 0)) < x0_0) → (¬ (x0_0 + (2 * (((1 + (Int.tmod a0 8)) + (1 + (Int.tmod a1 8))) - 2))) < (D.int (gt (D.rows (fn 39 [[D.i (1 + (Int.tmod a0 8)), D.i (1 + (Int.tmod a1 8)), D.i 1], [D.l x0_2]] 0 0)) x1_1.toNat 0))) → -9223372036854775808 ≤ ((D.int (gt (D.rows (fn 39 [[D.i (1 + (Int.tmod a0 8)), D.i (1 + (Int.tmod a1 8)), D.i 1], [D.l x0_2]] 0 0)) x1_1.toNat 0)) + a3) ∧ ((D.int (gt (D.rows (fn 39 [[D.i (1 + (Int.tmod a0 8)), D.i (1 + (Int.tmod a1 8)), D.i 1], [D.l x0_2]] 0 0)) x1_1.toNat 0)) + a3) ≤ 9223372036854775807
  g77 : ∀ x0_0 x0_1 x0_2 x0_3, I0 x0_0 x0_1 x0_2 x0_3 → ∀ x1_0 x1_1, I1 x0_0 x0_1 x0_2 x0_3 x1_0 x1_1 → (¬ x0_1 < ((1 + (Int.tmod a0 8)) * (1 + (Int.tmod a1 8)))) → ((D.int (fn 39 [[D.i (1 + (Int.tmod a0 8)), D.i (1 + (Int.tmod a1 8)), D.i 1], [D.l x0_2]] 1 0)) = 0) → ((D.int (fn 39 [[D.i (1 + (Int.tmod a0 8)), D.i (1 + (Int.tmod a1 8)), D.i 1], [D.l x0_3]] 1 0)) = 0) → (((((D.rows (fn 39 [[D.i (1 + (Int.tmod a0 8)), D.i (1 + (Int.tmod a1 8)), D.i 1], [D.l x0_2]] 0 0))).length : Int)) = ((1 + (Int.tmod a0 8)) * (1 + (Int.tmod a1 8)))) → (((((D.rows (fn 39 [[D.i (1 + (Int.tmod a0 8)), D.i (1 + (Int.tmod a1 8)), D.i 1], [D.l x0_3]] 0 0))).length : Int)) = ((1 + (Int.tmod a0 8)) * (1 + (Int.tmod a1 8)))) → (x1_1 < ((1 + (Int.tmod a0 8)) * (1 + (Int.tmod a1 8)))) → (¬ (D.int (gt (D.rows (fn 39 [[D.i (1 + (Int.tmod a0 8)), D.i (1 + (Int.tmod a1 8)), D.i 1], [D.l x0_2]] 0 0)) x1_1.toNat 0)) < x0_0) → (¬ (x0_0 + (2 * (((1 + (Int.tmod a0 8)) + (1 + (Int.tmod a1 8))) - 2))) < (D.int (gt (D.rows (fn 39 [[D.i (1 + (Int.tmod a0 8)), D.i (1 + (Int.tmod a1 8)), D.i 1], [D.l x0_2]] 0 0)) x1_1.toNat 0))) → (¬ (D.int (gt (D.rows (fn 39 [[D.i (1 + (Int.tmod a0 8)), D.i (1 + (Int.tmod a1 8)), D.i 1], [D.l x0_3]] 0 0)) x1_1.toNat 0)) = ((D.int (gt (D.rows (fn 39 [[D.i (1 + (Int.tmod a0 8)), D.i (1 + (Int.tmod a1 8)), D.i 1], [D.l x0_2]] 0 0)) x1_1.toNat 0)) + a3)) → R 0 0 = D.b false
  g78 : ∀ x0_0 x0_1 x0_2 x0_3, I0 x0_0 x0_1 x0_2 x0_3 → ∀ x1_0 x1_1, I1 x0_0 x0_1 x0_2 x0_3 x1_0 x1_1 → (¬ x0_1 < ((1 + (Int.tmod a0 8)) * (1 + (Int.tmod a1 8)))) → ((D.int (fn 39 [[D.i (1 + (Int.tmod a0 8)), D.i (1 + (Int.tmod a1 8)), D.i 1], [D.l x0_2]] 1 0)) = 0) → ((D.int (fn 39 [[D.i (1 + (Int.tmod a0 8)), D.i (1 + (Int.tmod a1 8)), D.i 1], [D.l x0_3]] 1 0)) = 0) → (((((D.rows (fn 39 [[D.i (1 + (Int.tmod a0 8)), D.i (1 + (Int.tmod a1 8)), D.i 1], [D.l x0_2]] 0 0))).length : Int)) = ((1 + (Int.tmod a0 8)) * (1 + (Int.tmod a1 8)))) → (((((D.rows (fn 39 [[D.i (1 + (Int.tmod a0 8)), D.i (1 + (Int.tmod a1 8)), D.i 1], [D.l x0_3]] 0 0))).length : Int)) = ((1 + (Int.tmod a0 8)) * (1 + (Int.tmod a1 8)))) → (x1_1 < ((1 + (Int.tmod a0 8)) * (1 + (Int.tmod a1 8)))) → (¬ (D.int (gt (D.rows (fn 39 [[D.i (1 + (Int.tmod a0 8)), D.i (1 + (Int.tmod a1 8)), D.i 1], [D.l x0_2]] 0 0)) x1_1.toNat 0)) < x0_0) → (¬ (x0_0 + (2 * (((1 + (Int.tmod a0 8)) + (1 + (Int.tmod a1 8))) - 2))) < (D.int (gt (D.rows (fn 39 [[D.i (1 + (Int.tmod a0 8)), D.i (1 + (Int.tmod a1 8)), D.i 1], [D.l x0_2]] 0 0)) x1_1.toNat 0))) → ((D.int (gt (D.rows (fn 39 [[D.i (1 + (Int.tmod a0 8)), D.i (1 + (Int.tmod a1 8)), D.i 1], [D.l x0_3]] 0 0)) x1_1.toNat 0)) = ((D.int (gt (D.rows (fn 39 [[D.i (1 + (Int.tmod a0 8)), D.i (1 + (Int.tmod a1 8)), D.i 1], [D.l x0_2]] 0 0)) x1_1.toNat 0)) + a3)) → -9223372036854775808 ≤ (x1_1 + 1) ∧ (x1_1 + 1) ≤ 9223372036854775807
  n79 : ∀ x0_0 x0_1 x0_2 x0_3, I0 x0_0 x0_1 x0_2 x0_3 → ∀ x1_0 x1_1, I1 x0_0 x0_1 x0_2 x0_3 x1_0 x1_1 → (¬ x0_1 < ((1 + (Int.tmod a0 8)) * (1 + (Int.tmod a1 8)))) → ((D.int (fn 39 [[D.i (1 + (Int.tmod a0 8)), D.i (1 + (Int.tmod a1 8)), D.i 1], [D.l x0_2]] 1 0)) = 0) → ((D.int (fn 39 [[D.i (1 + (Int.tmod a0 8)), D.i (1 + (Int.tmod a1 8)), D.i 1], [D.l x0_3]] 1 0)) = 0) → (((((D.rows (fn 39 [[D.i (1 + (Int.tmod a0 8)), D.i (1 + (Int.tmod a1 8)), D.i 1], [D.l x0_2]] 0 0))).length : Int)) = ((1 + (Int.tmod a0 8)) * (1 + (Int.tmod a1 8)))) → (((((D.rows (fn 39 [[D.i (1 + (Int.tmod a0 8)), D.i (1 + (Int.tmod a1 8)), D.i 1], [D.l x0_3]] 0 0))).length : Int)) = ((1 + (Int.tmod a0 8)) * (1 + (Int.tmod a1 8)))) → (x1_1 < ((1 + (Int.tmod a0 8)) * (1 + (Int.tmod a1 8)))) → (¬ (D.int (gt (D.rows (fn 39 [[D.i (1 + (Int.tmod a0 8)), D.i (1 + (Int.tmod a1 8)), D.i 1], [D.l x0_2]] 0 0)) x1_1.toNat 0)) < x0_0) → (¬ (x0_0 + (2 * (((1 + (Int.tmod a0 8)) + (1 + (Int.tmod a1 8))) - 2))) < (D.int (gt (D.rows (fn 39 [[D.i (1 + (Int.tmod a0 8)), D.i (1 + (Int.tmod a1 8)), D.i 1], [D.l x0_2]] 0 0)) x1_1.toNat 0))) → ((D.int (gt (D.rows (fn 39 [[D.i (1 + (Int.tmod a0 8)), D.i (1 + (Int.tmod a1 8)), D.i 1], [D.l x0_3]] 0 0)) x1_1.toNat 0)) = ((D.int (gt (D.rows (fn 39 [[D.i (1 + (Int.tmod a0 8)), D.i (1 + (Int.tmod a1 8)), D.i 1], [D.l x0_2]] 0 0)) x1_1.toNat 0)) + a3)) → I1 x0_0 x0_1 x0_2 x0_3 x1_0 (x1_1 + 1) ∧ m1 x0_0 x0_1 x0_2 x0_3 x1_0 (x1_1 + 1) < m1 x0_0 x0_1 x0_2 x0_3 x1_0 x1_1
  g80 : ∀ x0_0 x0_1 x0_2 x0_3, I0 x0_0 x0_1 x0_2 x0_3 → ∀ x1_0 x1_1, I1 x0_0 x0_1 x0_2 x0_3 x1_0 x1_1 → (¬ x0_1 < ((1 + (Int.tmod a0 8)) * (1 + (Int.tmod a1 8)))) → ((D.int (fn 39 [[D.i (1 + (Int.tmod a0 8)), D.i (1 + (Int.tmod a1 8)), D.i 1], [D.l x0_2]] 1 0)) = 0) → ((D.int (fn 39 [[D.i (1 + (Int.tmod a0 8)), D.i (1 + (Int.tmod a1 8)), D.i 1], [D.l x0_3]] 1 0)) = 0) → (((((D.rows (fn 39 [[D.i (1 + (Int.tmod a0 8)), D.i (1 + (Int.tmod a1 8)), D.i 1], [D.l x0_2]] 0 0))).length : Int)) = ((1 + (Int.tmod a0 8)) * (1 + (Int.tmod a1 8)))) → (((((D.rows (fn 39 [[D.i (1 + (Int.tmod a0 8)), D.i (1 + (Int.tmod a1 8)), D.i 1], [D.l x0_3]] 0 0))).length : Int)) = ((1 + (Int.tmod a0 8)) * (1 + (Int.tmod a1 8)))) → (¬ x1_1 < ((1 + (Int.tmod a0 8)) * (1 + (Int.tmod a1 8)))) → pre 13 []
  g81 : ∀ x0_0 x0_1 x0_2 x0_3, I0 x0_0 x0_1 x0_2 x0_3 → ∀ x1_0 x1_1, I1 x0_0 x0_1 x0_2 x0_3 x1_0 x1_1 → (¬ x0_1 < ((1 + (Int.tmod a0 8)) * (1 + (Int.tmod a1 8)))) → ((D.int (fn 39 [[D.i (1 + (Int.tmod a0 8)), D.i (1 + (Int.tmod a1 8)), D.i 1], [D.l x0_2]] 1 0)) = 0) → ((D.int (fn 39 [[D.i (1 + (Int.tmod a0 8)), D.i (1 + (Int.tmod a1 8)), D.i 1], [D.l x0_3]] 1 0)) = 0) → (((((D.rows (fn 39 [[D.i (1 + (Int.tmod a0 8)), D.i (1 + (Int.tmod a1 8)), D.i 1], [D.l x0_2]] 0 0))).length : Int)) = ((1 + (Int.tmod a0 8)) * (1 + (Int.tmod a1 8)))) → (((((D.rows (fn 39 [[D.i (1 + (Int.tmod a0 8)), D.i (1 + (Int.tmod a1 8)), D.i 1], [D.l x0_3]] 0 0))).length : Int)) = ((1 + (Int.tmod a0 8)) * (1 + (Int.tmod a1 8)))) → (¬ x1_1 < ((1 + (Int.tmod a0 8)) * (1 + (Int.tmod a1 8)))) → R 0 0 = D.b (D.boo (fn 13 [] 0 0))
end HX

namespace HX
open Go Go.Proofs CX
structure V17 (a0_0 : Int) (a0_1 : Int) (a0_2 : Int) (R : Nat → Nat → D)  : Prop where
  g0 : ((mnI (mnI a0_0 a0_1) a0_2) < 1) → R 0 0 = D.i 3
  g1 : (¬ (mnI (mnI a0_0 a0_1) a0_2) < 1) → (8 < (mxI a0_0 a0_1)) → R 0 0 = D.i 3
  g2 : (¬ (mnI (mnI a0_0 a0_1) a0_2) < 1) → (¬ 8 < (mxI a0_0 a0_1)) → (64 < a0_2) → R 0 0 = D.i 3
  g3 : (¬ (mnI (mnI a0_0 a0_1) a0_2) < 1) → (¬ 8 < (mxI a0_0 a0_1)) → (¬ 64 < a0_2) → R 0 0 = D.i 0
end HX

namespace HX
open Go Go.Proofs CX
structure V18 (a0_0 : Int) (a0_1 : Int) (a0_2 : Int) (R : Nat → Nat → D)  : Prop where
  g0 : (a0_0 < 1) → R 0 0 = D.i 3
  g1 : (¬ a0_0 < 1) → (8 < a0_0) → R 0 0 = D.i 3
  g2 : (¬ a0_0 < 1) → (¬ 8 < a0_0) → (a0_1 < 1) → R 0 0 = D.i 3
  g3 : (¬ a0_0 < 1) → (¬ 8 < a0_0) → (¬ a0_1 < 1) → (8 < a0_1) → R 0 0 = D.i 3
  g4 : (¬ a0_0 < 1) → (¬ 8 < a0_0) → (¬ a0_1 < 1) → (¬ 8 < a0_1) → (a0_2 < 1) → R 0 0 = D.i 3
  g5 : (¬ a0_0 < 1) → (¬ 8 < a0_0) → (¬ a0_1 < 1) → (¬ 8 < a0_1) → (¬ a0_2 < 1) → (64 < a0_2) → R 0 0 = D.i 3
  g6 : (¬ a0_0 < 1) → (¬ 8 < a0_0) → (¬ a0_1 < 1) → (¬ 8 < a0_1) → (¬ a0_2 < 1) → (¬ 64 < a0_2) → R 0 0 = D.i 0
end HX

namespace HX
open Go Go.Proofs CX
structure V39 (pre : Nat → List (List D) → Prop) (fn : Nat → List (List D) → Nat → Nat → D) (a0_0 : Int) (a0_1 : Int) (a0_2 : Int) (a1 : Rows) (R : Nat → Nat → D) (I0 : Rows → Int → Int → Int → Prop) (m0 : Rows → Int → Int → Int → Nat) (I1 : Rows → Int → Int → Int → Int → Rows → Prop) (m1 : Rows → Int → Int → Int → Int → Rows → Nat) : Prop where
  g0 : pre 17 [[D.i a0_0, D.i a0_1, D.i a0_2]]
  g1 : (¬ (D.int (fn 17 [[D.i a0_0, D.i a0_1, D.i a0_2]] 0 0)) = 0) → R 0 0 = D.l []
  g2 : (¬ (D.int (fn 17 [[D.i a0_0, D.i a0_1, D.i a0_2]] 0 0)) = 0) → R 1 0 = D.i (D.int (fn 17 [[D.i a0_0, D.i a0_1, D.i a0_2]] 0 0))
  g3 : ((D.int (fn 17 [[D.i a0_0, D.i a0_1, D.i a0_2]] 0 0)) = 0) → -9223372036854775808 ≤ (a0_0 * a0_1) ∧ (a0_0 * a0_1) ≤ 9223372036854775807
  g4 : ((D.int (fn 17 [[D.i a0_0, D.i a0_1, D.i a0_2]] 0 0)) = 0) → (¬ (a1.length : Int) = (a0_0 * a0_1)) → R 0 0 = D.l []
  g5 : ((D.int (fn 17 [[D.i a0_0, D.i a0_1, D.i a0_2]] 0 0)) = 0) → (¬ (a1.length : Int) = (a0_0 * a0_1)) → R 1 0 = D.i 13
  i0 : ((D.int (fn 17 [[D.i a0_0, D.i a0_1, D.i a0_2]] 0 0)) = 0) → ((a1.length : Int) = (a0_0 * a0_1)) → I0 [] 0 0 0
  g7 : ∀ x0_0 x0_1 x0_2 x0_3, I0 x0_0 x0_1 x0_2 x0_3 → ((D.int (fn 17 [[D.i a0_0, D.i a0_1, D.i a0_2]] 0 0)) = 0) → ((a1.length : Int) = (a0_0 * a0_1)) → (x0_3 < (a1.length : Int)) → 0 ≤ x0_3
  g8 : ∀ x0_0 x0_1 x0_2 x0_3, I0 x0_0 x0_1 x0_2 x0_3 → ((D.int (fn 17 [[D.i a0_0, D.i a0_1, D.i a0_2]] 0 0)) = 0) → ((a1.length : Int) = (a0_0 * a0_1)) → (x0_3 < (a1.length : Int)) → x0_3 < (a1.length : Int)
  g9 : ∀ x0_0 x0_1 x0_2 x0_3, I0 x0_0 x0_1 x0_2 x0_3 → ((D.int (fn 17 [[D.i a0_0, D.i a0_1, D.i a0_2]] 0 0)) = 0) → ((a1.length : Int) = (a0_0 * a0_1)) → (x0_3 < (a1.length : Int)) → (((Int.toNat x0_3 : Nat) : Int)) < (a1.length : Int)
  g10 : ∀ x0_0 x0_1 x0_2 x0_3, I0 x0_0 x0_1 x0_2 x0_3 → ((D.int (fn 17 [[D.i a0_0, D.i a0_1, D.i a0_2]] 0 0)) = 0) → ((a1.length : Int) = (a0_0 * a0_1)) → (x0_3 < (a1.length : Int)) → ((D.int (gt a1 x0_3.toNat 0)) < 0) → R 0 0 = D.l []
  g11 : ∀ x0_0 x0_1 x0_2 x0_3, I0 x0_0 x0_1 x0_2 x0_3 → ((D.int (fn 17 [[D.i a0_0, D.i a0_1, D.i a0_2]] 0 0)) = 0) → ((a1.length : Int) = (a0_0 * a0_1)) → (x0_3 < (a1.length : Int)) → ((D.int (gt a1 x0_3.toNat 0)) < 0) → R 1 0 = D.i 3
  g12 : ∀ x0_0 x0_1 x0_2 x0_3, I0 x0_0 x0_1 x0_2 x0_3 → ((D.int (fn 17 [[D.i a0_0, D.i a0_1, D.i a0_2]] 0 0)) = 0) → ((a1.length : Int) = (a0_0 * a0_1)) → (x0_3 < (a1.length : Int)) → (¬ (D.int (gt a1 x0_3.toNat 0)) < 0) → (10000 < (D.int (gt a1 x0_3.toNat 0))) → R 0 0 = D.l []
  g13 : ∀ x0_0 x0_1 x0_2 x0_3, I0 x0_0 x0_1 x0_2 x0_3 → ((D.int (fn 17 [[D.i a0_0, D.i a0_1, D.i a0_2]] 0 0)) = 0) → ((a1.length : Int) = (a0_0 * a0_1)) → (x0_3 < (a1.length : Int)) → (¬ (D.int (gt a1 x0_3.toNat 0)) < 0) → (10000 < (D.int (gt a1 x0_3.toNat 0))) → R 1 0 = D.i 3
  g14 : ∀ x0_0 x0_1 x0_2 x0_3, I0 x0_0 x0_1 x0_2 x0_3 → ((D.int (fn 17 [[D.i a0_0, D.i a0_1, D.i a0_2]] 0 0)) = 0) → ((a1.length : Int) = (a0_0 * a0_1)) → (x0_3 < (a1.length : Int)) → (¬ (D.int (gt a1 x0_3.toNat 0)) < 0) → (¬ 10000 < (D.int (gt a1 x0_3.toNat 0))) → a0_0 ≠ 0
  g16 : ∀ x0_0 x0_1 x0_2 x0_3, I0 x0_0 x0_1 x0_2 x0_3 → ((D.int (fn 17 [[D.i a0_0, D.i a0_1, D.i a0_2]] 0 0)) = 0) → ((a1.length : Int) = (a0_0 * a0_1)) → (x0_3 < (a1.length : Int)) → (¬ (D.int (gt a1 x0_3.toNat 0)) < 0) → (¬ 10000 < (D.int (gt a1 x0_3.toNat 0))) → -9223372036854775808 ≤ (Int.tdiv x0_3 a0_0) ∧ (Int.tdiv x0_3 a0_0) ≤ 9223372036854775807
  g17 : ∀ x0_0 x0_1 x0_2 x0_3, I0 x0_0 x0_1 x0_2 x0_3 → ((D.int (fn 17 [[D.i a0_0, D.i a0_1, D.i a0_2]] 0 0)) = 0) → ((a1.length : Int) = (a0_0 * a0_1)) → (x0_3 < (a1.length : Int)) → (¬ (D.int (gt a1 x0_3.toNat 0)) < 0) → (¬ 10000 < (D.int (gt a1 x0_3.toNat 0))) → -9223372036854775808 ≤ ((D.int (gt a1 x0_3.toNat 0)) + (Int.tmod x0_3 a0_0)) ∧ ((D.int (gt a1 x0_3.toNat 0)) + (Int.tmod x0_3 a0_0)) ≤ 9223372036854775807
  g18 : ∀ x0_0 x0_1 x0_2 x0_3, I0 x0_0 x0_1 x0_2 x0_3 → ((D.int (fn 17 [[D.i a0_0, D.i a0_1, D.i a0_2]] 0 0)) = 0) → ((a1.length : Int) = (a0_0 * a0_1)) → (x0_3 < (a1.length : Int)) → (¬ (D.int (gt a1 x0_3.toNat 0)) < 0) → (¬ 10000 < (D.int (gt a1 x0_3.toNat 0))) → -9223372036854775808 ≤ (((D.int (gt a1 x0_3.toNat 0)) + (Int.tmod x0_3 a0_0)) + (Int.tdiv x0_3 a0_0)) ∧ (((D.int (gt a1 x0_3.toNat 0)) + (Int.tmod x0_3 a0_0)) + (Int.tdiv x0_3 a0_0)) ≤ 9223372036854775807
  g19 : ∀ x0_0 x0_1 x0_2 x0_3, I0 x0_0 x0_1 x0_2 x0_3 → ((D.int (fn 17 [[D.i a0_0, D.i a0_1, D.i a0_2]] 0 0)) = 0) → ((a1.length : Int) = (a0_0 * a0_1)) → (x0_3 < (a1.length : Int)) → (¬ (D.int (gt a1 x0_3.toNat 0)) < 0) → (¬ 10000 < (D.int (gt a1 x0_3.toNat 0))) → -9223372036854775808 ≤ (x0_3 + 1) ∧ (x0_3 + 1) ≤ 9223372036854775807
  n20 : ∀ x0_0 x0_1 x0_2 x0_3, I0 x0_0 x0_1 x0_2 x0_3 → ((D.int (fn 17 [[D.i a0_0, D.i a0_1, D.i a0_2]] 0 0)) = 0) → ((a1.length : Int) = (a0_0 * a0_1)) → (x0_3 < (a1.length : Int)) → (¬ (D.int (gt a1 x0_3.toNat 0)) < 0) → (¬ 10000 < (D.int (gt a1 x0_3.toNat 0))) → I0 x0_0 x0_1 (mxI x0_2 (((D.int (gt a1 x0_3.toNat 0)) + (Int.tmod x0_3 a0_0)) + (Int.tdiv x0_3 a0_0))) (x0_3 + 1) ∧ m0 x0_0 x0_1 (mxI x0_2 (((D.int (gt a1 x0_3.toNat 0)) + (Int.tmod x0_3 a0_0)) + (Int.tdiv x0_3 a0_0))) (x0_3 + 1) < m0 x0_0 x0_1 x0_2 x0_3
  g21 : ∀ x0_0 x0_1 x0_2 x0_3, I0 x0_0 x0_1 x0_2 x0_3 → ((D.int (fn 17 [[D.i a0_0, D.i a0_1, D.i a0_2]] 0 0)) = 0) → ((a1.length : Int) = (a0_0 * a0_1)) → (¬ x0_3 < (a1.length : Int)) → 0 ≤ (a1.length : Int)
  g22 : ∀ x0_0 x0_1 x0_2 x0_3, I0 x0_0 x0_1 x0_2 x0_3 → ((D.int (fn 17 [[D.i a0_0, D.i a0_1, D.i a0_2]] 0 0)) = 0) → ((a1.length : Int) = (a0_0 * a0_1)) → (¬ x0_3 < (a1.length : Int)) → (a1.length : Int) ≤ (a1.length : Int)
  g23 : ∀ x0_0 x0_1 x0_2 x0_3, I0 x0_0 x0_1 x0_2 x0_3 → ((D.int (fn 17 [[D.i a0_0, D.i a0_1, D.i a0_2]] 0 0)) = 0) → ((a1.length : Int) = (a0_0 * a0_1)) → (¬ x0_3 < (a1.length : Int)) → ((a1.length : Int) * (Int.ofNat 1)) ≤ 4096
  g24 : ∀ x0_0 x0_1 x0_2 x0_3, I0 x0_0 x0_1 x0_2 x0_3 → ((D.int (fn 17 [[D.i a0_0, D.i a0_1, D.i a0_2]] 0 0)) = 0) → ((a1.length : Int) = (a0_0 * a0_1)) → (¬ x0_3 < (a1.length : Int)) → ((a1.length : Int) * (Int.ofNat 8)) ≤ 140737488355328
  i1 : ∀ x0_0 x0_1 x0_2 x0_3, I0 x0_0 x0_1 x0_2 x0_3 → ((D.int (fn 17 [[D.i a0_0, D.i a0_1, D.i a0_2]] 0 0)) = 0) → ((a1.length : Int) = (a0_0 * a0_1)) → (¬ x0_3 < (a1.length : Int)) → I1 x0_0 x0_1 x0_2 x0_3 0 (List.replicate (Int.toNat (a1.length : Int)) [D.i 0])
  g26 : ∀ x0_0 x0_1 x0_2 x0_3, I0 x0_0 x0_1 x0_2 x0_3 → ∀ x1_0 x1_1, I1 x0_0 x0_1 x0_2 x0_3 x1_0 x1_1 → ((D.int (fn 17 [[D.i a0_0, D.i a0_1, D.i a0_2]] 0 0)) = 0) → ((a1.length : Int) = (a0_0 * a0_1)) → (¬ x0_3 < (a1.length : Int)) → (x1_0 < ((((List.replicate (Int.toNat (a1.length : Int)) [D.i 0])).length : Int))) → a0_0 ≠ 0
  g28 : ∀ x0_0 x0_1 x0_2 x0_3, I0 x0_0 x0_1 x0_2 x0_3 → ∀ x1_0 x1_1, I1 x0_0 x0_1 x0_2 x0_3 x1_0 x1_1 → ((D.int (fn 17 [[D.i a0_0, D.i a0_1, D.i a0_2]] 0 0)) = 0) → ((a1.length : Int) = (a0_0 * a0_1)) → (¬ x0_3 < (a1.length : Int)) → (x1_0 < ((((List.replicate (Int.toNat (a1.length : Int)) [D.i 0])).length : Int))) → -9223372036854775808 ≤ (Int.tdiv x1_0 a0_0) ∧ (Int.tdiv x1_0 a0_0) ≤ 9223372036854775807
  g29 : ∀ x0_0 x0_1 x0_2 x0_3, I0 x0_0 x0_1 x0_2 x0_3 → ∀ x1_0 x1_1, I1 x0_0 x0_1 x0_2 x0_3 x1_0 x1_1 → ((D.int (fn 17 [[D.i a0_0, D.i a0_1, D.i a0_2]] 0 0)) = 0) → ((a1.length : Int) = (a0_0 * a0_1)) → (¬ x0_3 < (a1.length : Int)) → (x1_0 < ((((List.replicate (Int.toNat (a1.length : Int)) [D.i 0])).length : Int))) → -9223372036854775808 ≤ (x0_2 + (Int.tmod x1_0 a0_0)) ∧ (x0_2 + (Int.tmod x1_0 a0_0)) ≤ 9223372036854775807
  g30 : ∀ x0_0 x0_1 x0_2 x0_3, I0 x0_0 x0_1 x0_2 x0_3 → ∀ x1_0 x1_1, I1 x0_0 x0_1 x0_2 x0_3 x1_0 x1_1 → ((D.int (fn 17 [[D.i a0_0, D.i a0_1, D.i a0_2]] 0 0)) = 0) → ((a1.length : Int) = (a0_0 * a0_1)) → (¬ x0_3 < (a1.length : Int)) → (x1_0 < ((((List.replicate (Int.toNat (a1.length : Int)) [D.i 0])).length : Int))) → -9223372036854775808 ≤ ((x0_2 + (Int.tmod x1_0 a0_0)) + (Int.tdiv x1_0 a0_0)) ∧ ((x0_2 + (Int.tmod x1_0 a0_0)) + (Int.tdiv x1_0 a0_0)) ≤ 9223372036854775807
  g31 : ∀ x0_0 x0_1 x0_2 x0_3, I0 x0_0 x0_1 x0_2 x0_3 → ∀ x1_0 x1_1, I1 x0_0 x0_1 x0_2 x0_3 x1_0 x1_1 → ((D.int (fn 17 [[D.i a0_0, D.i a0_1, D.i a0_2]] 0 0)) = 0) → ((a1.length : Int) = (a0_0 * a0_1)) → (¬ x0_3 < (a1.length : Int)) → (x1_0 < ((((List.replicate (Int.toNat (a1.length : Int)) [D.i 0])).length : Int))) → 0 ≤ x1_0
  g32 : ∀ x0_0 x0_1 x0_2 x0_3, I0 x0_0 x0_1 x0_2 x0_3 → ∀ x1_0 x1_1, I1 x0_0 x0_1 x0_2 x0_3 x1_0 x1_1 → ((D.int (fn 17 [[D.i a0_0, D.i a0_1, D.i a0_2]] 0 0)) = 0) → ((a1.length : Int) = (a0_0 * a0_1)) → (¬ x0_3 < (a1.length : Int)) → (x1_0 < ((((List.replicate (Int.toNat (a1.length : Int)) [D.i 0])).length : Int))) → x1_0 < (x1_1.length : Int)
  g33 : ∀ x0_0 x0_1 x0_2 x0_3, I0 x0_0 x0_1 x0_2 x0_3 → ∀ x1_0 x1_1, I1 x0_0 x0_1 x0_2 x0_3 x1_0 x1_1 → ((D.int (fn 17 [[D.i a0_0, D.i a0_1, D.i a0_2]] 0 0)) = 0) → ((a1.length : Int) = (a0_0 * a0_1)) → (¬ x0_3 < (a1.length : Int)) → (x1_0 < ((((List.replicate (Int.toNat (a1.length : Int)) [D.i 0])).length : Int))) → (((Int.toNat x1_0 : Nat) : Int)) < (x1_1.length : Int)
  g34 : ∀ x0_0 x0_1 x0_2 x0_3, I0 x0_0 x0_1 x0_2 x0_3 → ∀ x1_0 x1_1, I1 x0_0 x0_1 x0_2 x0_3 x1_0 x1_1 → ((D.int (fn 17 [[D.i a0_0, D.i a0_1, D.i a0_2]] 0 0)) = 0) → ((a1.length : Int) = (a0_0 * a0_1)) → (¬ x0_3 < (a1.length : Int)) → (x1_0 < ((((List.replicate (Int.toNat (a1.length : Int)) [D.i 0])).length : Int))) → -9223372036854775808 ≤ (x1_0 + 1) ∧ (x1_0 + 1) ≤ 9223372036854775807
  n35 : ∀ x0_0 x0_1 x0_2 x0_3, I0 x0_0 x0_1 x0_2 x0_3 → ∀ x1_0 x1_1, I1 x0_0 x0_1 x0_2 x0_3 x1_0 x1_1 → ((D.int (fn 17 [[D.i a0_0, D.i a0_1, D.i a0_2]] 0 0)) = 0) → ((a1.length : Int) = (a0_0 * a0_1)) → (¬ x0_3 < (a1.length : Int)) → (x1_0 < ((((List.replicate (Int.toNat (a1.length : Int)) [D.i 0])).length : Int))) → I1 x0_0 x0_1 x0_2 x0_3 (x1_0 + 1) (List.set x1_1 x1_0.toNat [D.i ((x0_2 + (Int.tmod x1_0 a0_0)) + (Int.tdiv x1_0 a0_0))]) ∧ m1 x0_0 x0_1 x0_2 x0_3 (x1_0 + 1) (List.set x1_1 x1_0.toNat [D.i ((x0_2 + (Int.tmod x1_0 a0_0)) + (Int.tdiv x1_0 a0_0))]) < m1 x0_0 x0_1 x0_2 x0_3 x1_0 x1_1
  g36 : ∀ x0_0 x0_1 x0_2 x0_3, I0 x0_0 x0_1 x0_2 x0_3 → ∀ x1_0 x1_1, I1 x0_0 x0_1 x0_2 x0_3 x1_0 x1_1 → ((D.int (fn 17 [[D.i a0_0, D.i a0_1, D.i a0_2]] 0 0)) = 0) → ((a1.length : Int) = (a0_0 * a0_1)) → (¬ x0_3 < (a1.length : Int)) → (¬ x1_0 < ((((List.replicate (Int.toNat (a1.length : Int)) [D.i 0])).length : Int))) → R 0 0 = D.l x1_1
  g37 : ∀ x0_0 x0_1 x0_2 x0_3, I0 x0_0 x0_1 x0_2 x0_3 → ∀ x1_0 x1_1, I1 x0_0 x0_1 x0_2 x0_3 x1_0 x1_1 → ((D.int (fn 17 [[D.i a0_0, D.i a0_1, D.i a0_2]] 0 0)) = 0) → ((a1.length : Int) = (a0_0 * a0_1)) → (¬ x0_3 < (a1.length : Int)) → (¬ x1_0 < ((((List.replicate (Int.toNat (a1.length : Int)) [D.i 0])).length : Int))) → R 1 0 = D.i 0
end HX

namespace HX
open Go Go.Proofs CX

def wI (r : List D) : Int := (r.getD 0 .nil).int
theorem gt_wI (l : Rows) (q : Nat) : (gt l q 0).int = wI (l.getD q []) := rfl
theorem drop_row {l : Rows} {q : Nat} (h : q < l.length) : l.drop q = l.getD q [] :: l.drop (q + 1) := by
  rw [List.drop_eq_getElem_cons h, List.getD_eq_getElem?_getD, List.getElem?_eq_getElem h]; rfl
theorem row_mem {l : Rows} {q : Nat} (h : q < l.length) : l.getD q [] ∈ l := by
  rw [List.getD_eq_getElem?_getD, List.getElem?_eq_getElem h]; exact List.getElem_mem h
theorem mem_row {l : Rows} {r : List D} (h : r ∈ l) : ∃ q, q < l.length ∧ l.getD q [] = r := by
  obtain ⟨q, hq, e⟩ := List.getElem_of_mem h
  exact ⟨q, hq, by rw [List.getD_eq_getElem?_getD, List.getElem?_eq_getElem hq]; exact e⟩
theorem drop_end {l : Rows} {q : Nat} (h : ¬ (q : Int) < ((l.length : Nat) : Int)) : l.drop q = [] := List.drop_of_length_le (by omega)
theorem getD_set {l : Rows} {q i : Nat} {x : List D} (h : q < l.length) : (l.set q x).getD i [] = if i = q then x else l.getD i [] := by
  rw [List.getD_eq_getElem?_getD, List.getElem?_set, List.getD_eq_getElem?_getD]
  by_cases e : q = i
  · subst e; rw [if_pos rfl, if_pos rfl, if_pos h]; rfl
  · rw [if_neg e, if_neg (fun h => e h.symm)]
theorem getD_rep {n q : Nat} {x : List D} (h : q < n) : (List.replicate n x).getD q [] = x := by
  rw [List.getD_eq_getElem?_getD, List.getElem?_replicate, if_pos h]; rfl

def chkS (W H R : Int) : Int := if (1 ≤ W ∧ W ≤ 8) ∧ (1 ≤ H ∧ H ≤ 8) ∧ 1 ≤ R ∧ R ≤ 64 then 0 else 3
theorem chkS_0 {W H R : Int} (h : chkS W H R = 0) : (1 ≤ W ∧ W ≤ 8) ∧ (1 ≤ H ∧ H ≤ 8) ∧ 1 ≤ R ∧ R ≤ 64 := by
  unfold chkS at h
  split at h
  · assumption
  · cases h
theorem chkS_ne {W H R : Int} (h : ¬ chkS W H R = 0) : chkS W H R = 3 := by
  unfold chkS at h ⊢
  split at h
  · exact absurd rfl h
  · rw [if_neg (by assumption)]

theorem wh_bd {W H : Int} (h1 : 1 ≤ W) (h2 : W ≤ 8) (h3 : 1 ≤ H) (h4 : H ≤ 8) : 1 ≤ W * H ∧ W * H ≤ 64 := by
  have e1 := Int.mul_le_mul_of_nonneg_right h2 (show 0 ≤ H by omega)
  have e2 := Int.mul_le_mul_of_nonneg_right h1 (show 0 ≤ H by omega)
  omega

theorem xy {W H r : Int} (hW : 1 ≤ W) (h0 : 0 ≤ r) (hr : r < W * H) : (0 ≤ Int.tmod r W ∧ Int.tmod r W < W) ∧ (0 ≤ Int.tdiv r W ∧ Int.tdiv r W < H) ∧ Int.tdiv r W * W + Int.tmod r W = r := by
  rw [Int.tmod_eq_emod_of_nonneg h0, Int.tdiv_eq_ediv_of_nonneg h0]
  refine ⟨⟨Int.emod_nonneg _ (by omega), Int.emod_lt_of_pos _ (by omega)⟩, ⟨Int.ediv_nonneg h0 (by omega), ?_⟩, Int.mul_comm W _ ▸ Int.mul_ediv_add_emod r W⟩
  exact Int.ediv_lt_of_lt_mul (by omega) (by rw [Int.mul_comm]; exact hr)
theorem xy_of {W x y : Int} (hx : 0 ≤ x) (hxW : x < W) (hy : 0 ≤ y) : Int.tmod (y * W + x) W = x ∧ Int.tdiv (y * W + x) W = y := by
  have h0 : 0 ≤ y * W + x := by
    have := Int.mul_nonneg hy (show 0 ≤ W by omega)
    omega
  rw [Int.tmod_eq_emod_of_nonneg h0, Int.tdiv_eq_ediv_of_nonneg h0]
  refine ⟨?_, ?_⟩
  · rw [Int.add_comm, Int.add_mul_emod_self_right]; exact Int.emod_eq_of_lt hx hxW
  · rw [Int.add_comm, Int.add_mul_ediv_right _ _ (by omega), Int.ediv_eq_zero_of_lt hx hxW]; omega
end HX

namespace HX
open Go Go.Proofs CX

theorem law17 {a0_0 a0_1 a0_2 : Int} {R : Nat → Nat → D} (hR : R 0 0 = .i (chkS a0_0 a0_1 a0_2)) : V17 a0_0 a0_1 a0_2 R := by
  constructor
  all_goals (intros; rw [hR, chkS]; simp only [mxI_eq, mnI_eq] at *)
  all_goals (first | rw [if_neg (by omega)] | rw [if_pos (by omega)])
theorem law18 {a0_0 a0_1 a0_2 : Int} {R : Nat → Nat → D} (hR : R 0 0 = .i (chkS a0_0 a0_1 a0_2)) : V18 a0_0 a0_1 a0_2 R := by
  constructor
  all_goals (intros; rw [hR, chkS])
  all_goals (first | rw [if_neg (by omega)] | rw [if_pos (by omega)])

def fstB (W : Int) : Rows → Nat → Int → Int
  | [], _, a => a
  | r :: l, i, a => fstB W l (i + 1) (mxI a ((wI r + Int.tmod i W) + Int.tdiv i W))
def outB (W f : Int) (n : Nat) : Rows := (List.range n).map fun (q : Nat) => [.i ((f + Int.tmod q W) + Int.tdiv q W)]
def okT (l : Rows) : Prop := ∀ r ∈ l, 0 ≤ wI r ∧ wI r ≤ 10000
open Classical in
noncomputable def brE (W H R : Int) (l : Rows) : Int := if chkS W H R = 0 then (if ((l.length : Nat) : Int) = W * H then (if okT l then 0 else 3) else 13) else 3
open Classical in
noncomputable def brL (W H R : Int) (l : Rows) : Rows := if brE W H R l = 0 then outB W (fstB W l 0 0) l.length else []

theorem outB_len (W f : Int) (n : Nat) : (outB W f n).length = n := by simp [outB]
theorem outB_get {W f : Int} {n q : Nat} (h : q < n) : (outB W f n).getD q [] = [.i ((f + Int.tmod q W) + Int.tdiv q W)] := by
  rw [outB, List.getD_eq_getElem?_getD, List.getElem?_map, List.getElem?_range h]; rfl
theorem outB_set {W f : Int} {r n : Nat} (h : r < n) : (outB W f r ++ List.replicate (n - r) [D.i 0]).set r [.i ((f + Int.tmod r W) + Int.tdiv r W)] = outB W f (r + 1) ++ List.replicate (n - (r + 1)) [D.i 0] := by
  rw [List.set_append, if_neg (by rw [outB_len]; omega), outB_len, Nat.sub_self, show n - r = (n - (r + 1)) + 1 by omega, List.replicate_succ, List.set_cons_zero, outB, outB, List.range_succ, List.map_append, List.append_assoc]
  rfl

theorem law39 {pre : Nat → List (List D) → Prop} {fn : Nat → List (List D) → Nat → Nat → D} (hp17 : ∀ x, pre 17 x) (hf17 : ∀ a b c, fn 17 [[.i a, .i b, .i c]] 0 0 = .i (chkS a b c))
    {a0_0 a0_1 a0_2 : Int} {a1 : Rows} {R : Nat → Nat → D} (hR0 : R 0 0 = .l (brL a0_0 a0_1 a0_2 a1)) (hR1 : R 1 0 = .i (brE a0_0 a0_1 a0_2 a1)) :
    V39 pre fn a0_0 a0_1 a0_2 a1 R (fun _ _ f i => ∃ r : Nat, i = r ∧ r ≤ a1.length ∧ (∀ q < r, 0 ≤ wI (a1.getD q []) ∧ wI (a1.getD q []) ≤ 10000) ∧ 0 ≤ f ∧ f ≤ 10200 ∧ fstB a0_0 (a1.drop r) r f = fstB a0_0 a1 0 0) (fun _ _ _ i => (a1.length - i).toNat)
      (fun _ _ f _ i o => ∃ r : Nat, i = r ∧ r ≤ a1.length ∧ o = outB a0_0 f r ++ List.replicate (a1.length - r) [.i 0]) (fun _ _ _ _ i _ => (a1.length - i).toNat) := by
  have hi : ∀ n : Int, (D.i n).int = n := fun _ => rfl
  constructor
  all_goals (try (intro x0 x1 f i hI; obtain ⟨r, hx, hr, hq, hf0, hf1, hfe⟩ := hI; subst hx))
  all_goals (try (intro j o hJ; obtain ⟨s, hx1, hs, ho⟩ := hJ; subst hx1; subst ho))
  all_goals (intros; (try simp only [hf17, hp17, hi, Int.toNat_natCast, gt_wI, List.length_replicate, List.length_append, outB_len, List.length_set, mxI_eq, show Int.ofNat 1 = 1 from rfl, show Int.ofNat 8 = 8 from rfl] at *))
  case g1 => rename_i h; rw [hR0, brL, if_neg (by rw [brE, if_neg h]; omega)]
  case g2 => rename_i h; rw [hR1, brE, if_neg h, chkS_ne h]
  all_goals (have hc := ‹chkS a0_0 a0_1 a0_2 = 0›; obtain ⟨c1, c2, c3⟩ := chkS_0 hc; have hwh := wh_bd c1.1 c1.2 c2.1 c2.2)
  all_goals (try omega)
  case g4 => have h := ‹¬ ((a1.length : Nat) : Int) = a0_0 * a0_1›; rw [hR0, brL, if_neg (by rw [brE, if_pos hc, if_neg h]; omega)]
  case g5 => have h := ‹¬ ((a1.length : Nat) : Int) = a0_0 * a0_1›; rw [hR1, brE, if_pos hc, if_neg h]
  case i0 => exact ⟨0, rfl, by omega, fun q hq => by omega, by omega, by omega, rfl⟩
  all_goals (have hl := ‹((a1.length : Nat) : Int) = a0_0 * a0_1›)
  case g10 =>
    have hn : ¬ okT a1 := fun h => by have := (h _ (row_mem (l := a1) (q := r) (by omega))).1; omega
    rw [hR0, brL, if_neg (by rw [brE, if_pos hc, if_pos hl, if_neg hn]; omega)]
  case g11 =>
    have hn : ¬ okT a1 := fun h => by have := (h _ (row_mem (l := a1) (q := r) (by omega))).1; omega
    rw [hR1, brE, if_pos hc, if_pos hl, if_neg hn]
  case g12 =>
    have hn : ¬ okT a1 := fun h => by have := (h _ (row_mem (l := a1) (q := r) (by omega))).2; omega
    rw [hR0, brL, if_neg (by rw [brE, if_pos hc, if_pos hl, if_neg hn]; omega)]
  case g13 =>
    have hn : ¬ okT a1 := fun h => by have := (h _ (row_mem (l := a1) (q := r) (by omega))).2; omega
    rw [hR1, brE, if_pos hc, if_pos hl, if_neg hn]
  case i1 => exact ⟨0, rfl, by omega, by simp [outB]⟩
  all_goals (try (have hxy := xy (W := a0_0) (H := a0_1) (r := (r : Int)) c1.1 (by omega) (by omega); omega))
  case n20 =>
    have hxy := xy (W := a0_0) (H := a0_1) (r := (r : Int)) c1.1 (by omega) (by omega)
    refine ⟨⟨r + 1, rfl, by omega, fun q h => ?_, by omega, by omega, ?_⟩, by omega⟩
    · by_cases e : q = r
      · subst e; omega
      · exact hq q (by omega)
    · rw [drop_row (by omega)] at hfe
      simp only [fstB, mxI_eq] at hfe
      exact hfe
  all_goals (try (have hxy := xy (W := a0_0) (H := a0_1) (r := (s : Int)) c1.1 (by omega) (by omega); omega))
  case n35 => exact ⟨⟨s + 1, rfl, by omega, outB_set (by omega)⟩, by omega⟩
  all_goals (have hok : okT a1 := fun x hx => by obtain ⟨q, hq1, rfl⟩ := mem_row hx; exact hq q (by omega))
  all_goals (have hE : brE a0_0 a0_1 a0_2 a1 = 0 := by rw [brE, if_pos hc, if_pos hl, if_pos hok])
  case g36 =>
    have e1 : r = a1.length := by omega
    have e2 : s = a1.length := by omega
    subst e1; subst e2
    rw [hR0, brL, if_pos hE, Nat.sub_self, ← hfe, List.drop_length]
    simp [fstB]
  case g37 => rw [hR1, hE]
end HX

namespace HX
open Go Go.Proofs CX

theorem fstB_le {W : Int} : ∀ (l : Rows) (i : Nat) (a B : Int), fstB W l i a ≤ B ↔ a ≤ B ∧ ∀ q < l.length, (wI (l.getD q []) + Int.tmod ((i + q : Nat) : Int) W) + Int.tdiv ((i + q : Nat) : Int) W ≤ B
  | [], i, a, B => by simp [fstB]
  | r :: l, i, a, B => by
    simp only [fstB]
    rw [fstB_le l (i + 1), mxI_eq]
    constructor
    · rintro ⟨h1, h2⟩
      refine ⟨by omega, fun q hq => ?_⟩
      cases q with
      | zero => simp only [List.getD_cons_zero, Nat.add_zero]; omega
      | succ q =>
        have := h2 q (by simpa using hq)
        rw [show i + (q + 1) = i + 1 + q by omega]
        simpa using this
    · rintro ⟨h1, h2⟩
      have h0 := h2 0 (by simp)
      simp only [List.getD_cons_zero, Nat.add_zero] at h0
      refine ⟨by omega, fun q hq => ?_⟩
      have := h2 (q + 1) (by simpa using hq)
      rw [show i + (q + 1) = i + 1 + q by omega] at this
      simpa using this

theorem together {W H k : Int} {a b : Rows} {m : Int} (hW : 1 ≤ W ∧ W ≤ 8) (hH : 1 ≤ H ∧ H ≤ 8) (hk : 0 ≤ k ∧ k ≤ 255) (ha : ((a.length : Nat) : Int) = W * H) (hb : ((b.length : Nat) : Int) = W * H)
    (h1 : ∀ q < a.length, (0 ≤ wI (a.getD q []) ∧ wI (a.getD q []) ≤ m) ∧ wI (a.getD q []) ≤ 255 ∧ wI (b.getD q []) = wI (a.getD q []) + k) (hm : m = 0 ∨ ∃ q < a.length, m = wI (a.getD q [])) :
    brE W H 1 a = 0 ∧ brE W H 1 b = 0 ∧ (brL W H 1 a).length = a.length ∧ (brL W H 1 b).length = a.length ∧
      ∀ q < a.length, (m ≤ wI ((brL W H 1 a).getD q []) ∧ wI ((brL W H 1 a).getD q []) ≤ m + 2 * (W + H - 2)) ∧ (wI ((brL W H 1 b).getD q []) = wI ((brL W H 1 a).getD q []) + k ∧ 0 ≤ wI ((brL W H 1 a).getD q []) ∧ wI ((brL W H 1 a).getD q []) ≤ 10000) := by
  have hlen : a.length = b.length := by omega
  have hwh := wh_bd hW.1 hW.2 hH.1 hH.2
  have hc : chkS W H 1 = 0 := by unfold chkS; rw [if_pos (by omega)]
  have ok1 : okT a := fun x hx => by obtain ⟨q, hq, rfl⟩ := mem_row hx; have := h1 q hq; omega
  have ok2 : okT b := fun x hx => by obtain ⟨q, hq, rfl⟩ := mem_row hx; have := h1 q (by omega); omega
  have e1 : brE W H 1 a = 0 := by rw [brE, if_pos hc, if_pos ha, if_pos ok1]
  have e2 : brE W H 1 b = 0 := by rw [brE, if_pos hc, if_pos hb, if_pos ok2]
  have hx : ∀ q : Nat, q < a.length → (0 ≤ Int.tmod (q : Int) W ∧ Int.tmod (q : Int) W ≤ W - 1) ∧ 0 ≤ Int.tdiv (q : Int) W ∧ Int.tdiv (q : Int) W ≤ H - 1 := fun q hq => by
    have := xy (W := W) (H := H) (r := (q : Int)) hW.1 (by omega) (by omega)
    omega
  obtain ⟨f, hf⟩ : ∃ f, fstB W a 0 0 = f := ⟨_, rfl⟩
  obtain ⟨g, hg⟩ : ∃ g, fstB W b 0 0 = g := ⟨_, rfl⟩
  have F := fun B => fstB_le (W := W) a 0 0 B
  have G := fun B => fstB_le (W := W) b 0 0 B
  rw [hf] at F
  rw [hg] at G
  simp only [Nat.zero_add] at F G
  have hf0 := ((F f).1 (Int.le_refl _))
  have hg0 := ((G g).1 (Int.le_refl _))
  have hpos : 0 < a.length := by omega
  have a0 := h1 0 hpos
  have hmf : m ≤ f := by
    rcases hm with rfl | ⟨q, hq, rfl⟩
    · exact hf0.1
    · have := hf0.2 q hq; have := hx q hq; omega
  have hm0 : 0 ≤ m := by omega
  have hfm : f ≤ m + (W + H - 2) := (F _).2 ⟨by omega, fun q hq => by have := h1 q hq; have := hx q hq; omega⟩
  have hm255 : m ≤ 255 := by
    rcases hm with rfl | ⟨q, hq, rfl⟩
    · omega
    · have := h1 q hq; omega
  have hgf : g = f + k := by
    refine Int.le_antisymm ((G _).2 ⟨by omega, fun q hq => ?_⟩) ?_
    · have := h1 q (by omega); have := hf0.2 q (by omega); omega
    · have : f ≤ g - k := (F _).2 ⟨?_, fun q hq => ?_⟩
      · omega
      · have := hg0.2 0 (by omega); have := h1 0 hpos; have := hx 0 hpos; omega
      · have := h1 q (by omega); have := hg0.2 q (by omega); omega
  rw [brL, if_pos e1, brL, if_pos e2, hf, hg, outB_len, outB_len]
  refine ⟨e1, e2, rfl, hlen.symm, fun q hq => ?_⟩
  rw [outB_get hq, outB_get (by omega)]
  have := hx q hq
  simp only [wI, List.getD_cons_zero, D.int]
  omega

theorem law12 {pre : Nat → List (List D) → Prop} {fn : Nat → List (List D) → Nat → Nat → D} (hp13 : pre 13 []) (hf13 : fn 13 [] 0 0 = .b true) (hp39 : ∀ x, pre 39 x)
    (hf39 : ∀ a b c l, fn 39 [[.i a, .i b, .i c], [.l l]] 0 0 = .l (brL a b c l)) (hf39' : ∀ a b c l, fn 39 [[.i a, .i b, .i c], [.l l]] 1 0 = .i (brE a b c l))
    {a0 a1 a3 : Int} {a2 : Rows} (h0 : 0 ≤ a0 ∧ a0 ≤ 255) (h1 : 0 ≤ a1 ∧ a1 ≤ 255) (h3 : 0 ≤ a3 ∧ a3 ≤ 255) (h2 : ∀ r ∈ a2, 0 ≤ wI r ∧ wI r ≤ 255) {R : Nat → Nat → D} (hR : R 0 0 = .b true) :
    V12 pre fn a0 a1 a2 a3 R
      (fun m i a b => ∃ r : Nat, i = r ∧ (r : Int) ≤ (1 + Int.tmod a0 8) * (1 + Int.tmod a1 8) ∧ ((a.length : Nat) : Int) = (1 + Int.tmod a0 8) * (1 + Int.tmod a1 8) ∧ ((b.length : Nat) : Int) = (1 + Int.tmod a0 8) * (1 + Int.tmod a1 8) ∧
        (∀ q < a.length, 0 ≤ wI (a.getD q []) ∧ wI (a.getD q []) ≤ 255) ∧
        (∀ q < r, (0 ≤ wI (a.getD q []) ∧ wI (a.getD q []) ≤ m) ∧ wI (a.getD q []) ≤ 255 ∧ wI (b.getD q []) = wI (a.getD q []) + a3) ∧ (m = 0 ∨ ∃ q < r, m = wI (a.getD q [])))
      (fun _ i _ _ => ((1 + Int.tmod a0 8) * (1 + Int.tmod a1 8) - i).toNat)
      (fun _ _ a _ b i => b = false ∧ ∃ r : Nat, i = r ∧ r ≤ a.length) (fun _ _ _ _ _ i => ((1 + Int.tmod a0 8) * (1 + Int.tmod a1 8) - i).toNat) := by
  have e0 : 0 ≤ Int.tmod a0 8 ∧ Int.tmod a0 8 ≤ 7 := by rw [Int.tmod_eq_emod_of_nonneg h0.1]; omega
  have e1 : 0 ≤ Int.tmod a1 8 ∧ Int.tmod a1 8 ≤ 7 := by rw [Int.tmod_eq_emod_of_nonneg h1.1]; omega
  obtain ⟨W, hW⟩ : ∃ W, 1 + Int.tmod a0 8 = W := ⟨_, rfl⟩
  obtain ⟨H, hH⟩ : ∃ H, 1 + Int.tmod a1 8 = H := ⟨_, rfl⟩
  have hwh := wh_bd (W := W) (H := H) (by omega) (by omega) (by omega) (by omega)
  have hi : ∀ n : Int, (D.i n).int = n := fun _ => rfl
  have hw : ∀ n : Int, wI [.i n] = n := fun _ => rfl
  have hr : ∀ l : Rows, (D.l l).rows = l := fun _ => rfl
  have hWb : 1 ≤ W ∧ W ≤ 8 := by omega
  have hHb : 1 ≤ H ∧ H ≤ 8 := by omega
  have hidx : ∀ r : Nat, 0 < ((a2.length : Nat) : Int) → (0 ≤ Int.tmod r ((a2.length : Nat) : Int) ∧ Int.tmod r ((a2.length : Nat) : Int) < ((a2.length : Nat) : Int)) ∧ 0 ≤ wI (a2.getD (Int.tmod r ((a2.length : Nat) : Int)).toNat []) ∧ wI (a2.getD (Int.tmod r ((a2.length : Nat) : Int)).toNat []) ≤ 255 := by
    intro r hl
    have e1 := Int.tmod_nonneg (a := (r : Int)) ((a2.length : Nat) : Int) (by omega)
    have e2 := Int.tmod_lt_of_pos (r : Int) hl
    exact ⟨⟨e1, e2⟩, h2 _ (row_mem (by omega))⟩
  constructor
  all_goals (try (intro m i a b hI; obtain ⟨r, hx, hr1, hla, hlb, hab, hq, hm⟩ := hI; subst hx))
  all_goals (try (intro bb j hJ; obtain ⟨hbf, s, hx1, hs⟩ := hJ; subst hx1; subst hbf))
  all_goals (intros; (try simp only [hW, hH, hf39, hf39', hp39, hi, hr, Int.toNat_natCast, gt_wI, List.length_replicate, List.length_set, show Int.ofNat 1 = 1 from rfl, show Int.ofNat 8 = 8 from rfl] at *))
  all_goals (try omega)
  case i0 =>
    refine ⟨0, by omega, by omega, by omega, by omega, fun q h => ?_, fun q h => by omega, .inl trivial⟩
    rw [getD_rep h]
    simp only [wI, List.getD_cons_zero, D.int]; omega
  case g17 => (have h : 0 < ((a2.length : Nat) : Int) := by assumption); have := hidx r h; omega
  case g19 => (have h : 0 < ((a2.length : Nat) : Int) := by assumption); have := hidx r h; omega
  case g18 => (have h : 0 < ((a2.length : Nat) : Int) := by assumption); have := hidx r h; omega
  case g20 => (have h : 0 < ((a2.length : Nat) : Int) := by assumption); have := hidx r h; omega
  case g28 => (have h : 0 < ((a2.length : Nat) : Int) := by assumption); have := hidx r h; rw [getD_set (by omega), if_pos rfl]; simp only [wI, List.getD_cons_zero, D.int] at *; omega
  case n36 =>
    have h : 0 < ((a2.length : Nat) : Int) := by assumption
    have hv := hidx r h
    rw [getD_set (by omega), if_pos rfl]
    obtain ⟨v, hvv⟩ : ∃ v, wI (a2.getD (Int.tmod r ((a2.length : Nat) : Int)).toNat []) = v := ⟨_, rfl⟩
    rw [hvv] at hv ⊢
    rw [hw v, mxI_eq]
    refine ⟨⟨r + 1, by omega, by omega, hla, hlb, fun q hq1 => ?_, fun q hq1 => ?_, ?_⟩, by omega⟩
    · rw [getD_set (by omega)]
      split
      · rw [hw]; omega
      · exact hab q hq1
    · rw [getD_set (by omega), getD_set (by omega)]
      split
      · rw [hw, hw]; omega
      · have := hq q (by omega); omega
    · by_cases e : m ≤ v
      · refine .inr ⟨r, by omega, ?_⟩
        rw [getD_set (by omega), if_pos rfl, hw]; omega
      · rcases hm with h | ⟨q, hq1, h⟩
        · exact .inl (by omega)
        · refine .inr ⟨q, by omega, ?_⟩
          rw [getD_set (by omega), if_neg (by omega)]; omega
  case g41 => have := hab r (by omega); omega
  case n49 =>
    have hv := hab r (by omega)
    obtain ⟨v, hvv⟩ : ∃ v, wI (a.getD r []) = v := ⟨_, rfl⟩
    rw [hvv] at hv ⊢
    rw [mxI_eq]
    refine ⟨⟨r + 1, by omega, by omega, hla, hlb, fun q hq1 => hab q hq1, fun q hq1 => ?_, ?_⟩, by omega⟩
    · rw [getD_set (by omega)]
      split
      · rename_i e; rw [hw, e, hvv]; omega
      · have := hq q (by omega); omega
    · by_cases e : m ≤ v
      · exact .inr ⟨r, by omega, by omega⟩
      · rcases hm with h | ⟨q, hq1, h⟩
        · exact .inl (by omega)
        · exact .inr ⟨q, by omega, by omega⟩
  all_goals (have hra : r = a.length := by omega)
  all_goals subst hra
  all_goals (have T := together (W := W) (H := H) (k := a3) (a := a) (b := b) (m := m) hWb hHb (by omega) hla hlb hq hm; obtain ⟨T1, T2, T3, T4, T5⟩ := T)
  all_goals (try contradiction)
  all_goals (try omega)
  case i1 => exact ⟨trivial, 0, by omega, by omega⟩
  case g81 => rw [hf13]; exact hR
  case n79 => exact ⟨⟨trivial, s + 1, by omega, by omega⟩, by omega⟩
  all_goals (have T6 := T5 s (by omega))
  all_goals (try omega)
end HX

namespace HX
open Go Go.Proofs CX

def abv (W k : Int) : Int := if 0 < Int.tmod k W then k - 1 else k - W
def bhd (W r k : Int) : Prop := (Int.tmod r W = 0 ∧ Int.tdiv r W ≤ Int.tdiv k W) ∨ (Int.tdiv r W = Int.tdiv k W ∧ Int.tmod r W ≤ Int.tmod k W)
def dep (W r : Int) : Int := Int.tmod r W + Int.tdiv r W

theorem at_of {W r x y : Int} (hx : 0 ≤ x) (hxW : x < W) (hy : 0 ≤ y) (e : r = y * W + x) : Int.tmod r W = x ∧ Int.tdiv r W = y := by
  subst e; exact xy_of hx hxW hy

theorem abv_spec {W H k : Int} (hW : 1 ≤ W) (h0 : 1 ≤ k) (hk : k < W * H) : 0 ≤ abv W k ∧ abv W k < k ∧ dep W (abv W k) + 1 = dep W k ∧ ∀ q, bhd W k q → bhd W (abv W k) q := by
  obtain ⟨⟨a1, a2⟩, ⟨a3, a4⟩, a5⟩ := xy (W := W) (H := H) (r := k) hW (by omega) hk
  unfold abv dep bhd
  by_cases h : 0 < Int.tmod k W
  · rw [if_pos h]
    obtain ⟨b1, b2⟩ := at_of (W := W) (r := k - 1) (x := Int.tmod k W - 1) (y := Int.tdiv k W) (by omega) (by omega) a3 (by omega)
    rw [b1, b2]
    exact ⟨by omega, by omega, by omega, fun q hq => by omega⟩
  · rw [if_neg h]
    have hz : Int.tmod k W = 0 := by omega
    have hy : 1 ≤ Int.tdiv k W := by
      by_cases h1 : 1 ≤ Int.tdiv k W
      · exact h1
      · have h2 : Int.tdiv k W = 0 := by omega
        rw [h2, Int.zero_mul] at a5; omega
    have hm : (Int.tdiv k W - 1) * W = Int.tdiv k W * W - W := by rw [Int.sub_mul, Int.one_mul]
    obtain ⟨b1, b2⟩ := at_of (W := W) (r := k - W) (x := 0) (y := Int.tdiv k W - 1) (by omega) (by omega) (by omega) (by omega)
    have hn := Int.mul_nonneg (show 0 ≤ Int.tdiv k W - 1 by omega) (show 0 ≤ W by omega)
    rw [b1, b2]
    exact ⟨by omega, by omega, by omega, fun q hq => by omega⟩

theorem bhd_child {W H r k : Int} (hW : 1 ≤ W) (h0 : 0 ≤ r) (hr : r < W * H) (k0 : 0 ≤ k) (hk : k < W * H) (hd : bhd W r k) (hne : k ≠ r) : ∃ j, r < j ∧ j < W * H ∧ abv W j = r ∧ bhd W j k := by
  obtain ⟨⟨a1, a2⟩, ⟨a3, a4⟩, a5⟩ := xy (W := W) (H := H) (r := r) hW h0 hr
  obtain ⟨⟨b1, b2⟩, ⟨b3, b4⟩, b5⟩ := xy (W := W) (H := H) (r := k) hW k0 hk
  have right : Int.tdiv r W = Int.tdiv k W → Int.tmod r W < Int.tmod k W → ∃ j, r < j ∧ j < W * H ∧ abv W j = r ∧ bhd W j k := by
    intro e1 e2
    obtain ⟨c1, c2⟩ := at_of (W := W) (r := r + 1) (x := Int.tmod r W + 1) (y := Int.tdiv r W) (by omega) (by omega) a3 (by omega)
    rw [e1] at a5
    exact ⟨r + 1, by omega, by omega, by unfold abv; rw [c1, if_pos (by omega)]; omega, by unfold bhd; rw [c1, c2]; exact .inr ⟨by omega, by omega⟩⟩
  rcases hd with ⟨h1, h2⟩ | ⟨h1, h2⟩
  · by_cases e : Int.tdiv r W = Int.tdiv k W
    · refine right e ?_
      by_cases e2 : Int.tmod k W = 0
      · exact absurd (by rw [← a5, ← b5, e, h1, e2]) hne
      · omega
    · obtain ⟨c1, c2⟩ := at_of (W := W) (r := r + W) (x := 0) (y := Int.tdiv r W + 1) (by omega) (by omega) (by omega) (by rw [Int.add_mul, Int.one_mul]; omega)
      have hm := Int.mul_le_mul_of_nonneg_right (show Int.tdiv r W + 1 ≤ Int.tdiv k W by omega) (show 0 ≤ W by omega)
      rw [Int.add_mul, Int.one_mul] at hm
      exact ⟨r + W, by omega, by omega, by unfold abv; rw [c1, if_neg (by omega)]; omega, by unfold bhd; rw [c1, c2]; exact .inl ⟨rfl, by omega⟩⟩
  · refine right h1 ?_
    by_cases e2 : Int.tmod r W = Int.tmod k W
    · exact absurd (by rw [← a5, ← b5, h1, e2]) hne
    · omega

open Classical in
noncomputable def repG (W r : Int) : Rows → Nat → Int → Int
  | [], _, a => a
  | x :: l, i, a => repG W r l (i + 1) (if bhd W r i then mxI a (wI x + (dep W i - dep W r)) else a)
noncomputable def repV (W : Int) (l : Rows) (r : Int) : Int := repG W r l 0 (wI (l.getD r.toNat []))

theorem repG_le {W r : Int} : ∀ (l : Rows) (i : Nat) (a B : Int), repG W r l i a ≤ B ↔ a ≤ B ∧ ∀ q < l.length, bhd W r ((i + q : Nat) : Int) → wI (l.getD q []) + (dep W ((i + q : Nat) : Int) - dep W r) ≤ B
  | [], i, a, B => by simp [repG]
  | x :: l, i, a, B => by
    simp only [repG]
    rw [repG_le l (i + 1)]
    constructor
    · rintro ⟨h1, h2⟩
      have ha : a ≤ B := by
        split at h1
        · rw [mxI_eq] at h1; omega
        · exact h1
      refine ⟨ha, fun q hq hd => ?_⟩
      cases q with
      | zero =>
        simp only [List.getD_cons_zero, Nat.add_zero] at hd ⊢
        rw [if_pos hd, mxI_eq] at h1; omega
      | succ q =>
        rw [show i + (q + 1) = i + 1 + q by omega] at hd ⊢
        simpa using h2 q (by simpa using hq) hd
    · rintro ⟨h1, h2⟩
      have h0 := h2 0 (by simp)
      simp only [List.getD_cons_zero, Nat.add_zero] at h0
      refine ⟨?_, fun q hq hd => ?_⟩
      · split
        · rename_i hd; have := h0 hd; rw [mxI_eq]; omega
        · exact h1
      · have := h2 (q + 1) (by simpa using hq)
        rw [show i + (q + 1) = i + 1 + q by omega] at this
        simpa using this hd

theorem bhd_self (W r : Int) : bhd W r r := .inr ⟨rfl, Int.le_refl _⟩
theorem bhd_all {W H k : Int} (hW : 1 ≤ W) (k0 : 0 ≤ k) (hk : k < W * H) : bhd W 0 k := by
  have := xy (W := W) (H := H) (r := k) hW k0 hk
  refine .inl ⟨Int.zero_tmod _, ?_⟩
  rw [Int.zero_tdiv]; exact this.2.1.1

theorem repV_le {W H : Int} {l : Rows} {r : Int} (hW : 1 ≤ W) (hl : ((l.length : Nat) : Int) = W * H) (h0 : 0 ≤ r) (hr : r < W * H) (B : Int) :
    repV W l r ≤ B ↔ wI (l.getD r.toNat []) ≤ B ∧ ∀ j : Nat, 1 ≤ j → j < l.length → (j : Int) ≠ r → abv W j = r → repV W l j + 1 ≤ B := by
  unfold repV
  rw [repG_le]
  constructor
  · rintro ⟨h1, h2⟩
    refine ⟨h1, fun j j1 jl jn ja => ?_⟩
    obtain ⟨s1, s2, s3, s4⟩ := abv_spec (W := W) (H := H) (k := j) hW (by omega) (by omega)
    rw [ja] at s3 s4
    have : repG W j l 0 (wI (l.getD (j : Int).toNat [])) ≤ B - 1 := by
      rw [repG_le]
      have hj := h2 j jl
      simp only [Nat.zero_add] at hj ⊢
      refine ⟨?_, fun q hq hd => ?_⟩
      · have := hj (s4 _ (bhd_self W j)); rw [Int.toNat_natCast]; omega
      · have h3 := h2 q hq
        simp only [Nat.zero_add] at h3
        have := h3 (s4 _ hd); omega
    omega
  · rintro ⟨h1, h2⟩
    refine ⟨h1, fun q hq hd => ?_⟩
    simp only [Nat.zero_add] at hd ⊢
    by_cases e : (q : Int) = r
    · subst e; rw [Int.toNat_natCast] at h1; omega
    · obtain ⟨j, j1, j2, j3, j4⟩ := bhd_child (W := W) (H := H) (r := r) (k := q) hW h0 hr (by omega) (by omega) hd e
      obtain ⟨n, hn⟩ : ∃ n : Nat, j = n := ⟨j.toNat, by omega⟩
      subst hn
      have h3 := h2 n (by omega) (by omega) (by omega) j3
      have h4 := (repG_le (W := W) (r := n) l 0 (wI (l.getD (n : Int).toNat [])) (B - 1)).1 (by omega)
      have h5 := h4.2 q hq
      simp only [Nat.zero_add] at h5
      have := h5 j4
      obtain ⟨s1, s2, s3, s4⟩ := abv_spec (W := W) (H := H) (k := n) hW (by omega) (by omega)
      rw [j3] at s3
      omega

theorem repV_0 {W H : Int} {l : Rows} (hW : 1 ≤ W) (hH : 1 ≤ H) (hl : ((l.length : Nat) : Int) = W * H) (hok : okT l) (hpos : 0 < l.length) : repV W l 0 = fstB W l 0 0 := by
  have hd0 : dep W 0 = 0 := by unfold dep; rw [Int.zero_tmod, Int.zero_tdiv]; rfl
  have key : ∀ B, repV W l 0 ≤ B ↔ fstB W l 0 0 ≤ B := by
    intro B
    unfold repV
    rw [repG_le, fstB_le]
    simp only [Nat.zero_add]
    have w0 := hok _ (row_mem hpos)
    constructor
    · rintro ⟨h1, h2⟩
      refine ⟨by simp only [Int.toNat_zero] at h1; omega, fun q hq => ?_⟩
      have := h2 q hq (bhd_all (H := H) hW (by omega) (by omega))
      unfold dep at this hd0; omega
    · rintro ⟨h1, h2⟩
      refine ⟨?_, fun q hq _ => ?_⟩
      · have := h2 0 hpos
        have e : Int.tmod ((0 : Nat) : Int) W = 0 := Int.zero_tmod _
        have e' : Int.tdiv ((0 : Nat) : Int) W = 0 := Int.zero_tdiv _
        rw [e, e'] at this
        simp only [Int.toNat_zero]; omega
      · have := h2 q hq
        unfold dep at hd0 ⊢; omega
  exact Int.le_antisymm ((key _).2 (Int.le_refl _)) ((key _).1 (Int.le_refl _))
end HX

namespace HX
open Go Go.Proofs CX

theorem law83 {a0_0 a0_1 a0_2 a1 : Int} (h : (1 ≤ a0_0 ∧ a0_0 ≤ 8) ∧ 0 ≤ a1 ∧ a1 ≤ 64) {R : Nat → Nat → D} (hR : R 0 0 = .i (abv a0_0 a1)) : V83 a0_0 a0_1 a0_2 a1 R := by
  constructor
  all_goals (intros; (try omega))
  · rw [hR, abv, if_pos (by assumption)]
  · rw [hR, abv, if_neg (by assumption)]

def repPre (W H : Int) (l : Rows) (r : Int) : Prop := (1 ≤ W ∧ W ≤ 8) ∧ (1 ≤ H ∧ H ≤ 8) ∧ ((l.length : Nat) : Int) = W * H ∧ okT l ∧ 0 ≤ r ∧ r < W * H

theorem repV_bd {W H : Int} {l : Rows} {r : Int} (h : repPre W H l r) : 0 ≤ repV W l r ∧ repV W l r ≤ 10200 := by
  obtain ⟨⟨w1, w2⟩, ⟨h1, h2⟩, hl, hok, r0, r1⟩ := h
  have hwh := wh_bd w1 w2 h1 h2
  have a := (repV_le (H := H) w1 hl r0 r1 (repV W l r)).1 (Int.le_refl _)
  have b := hok _ (row_mem (l := l) (q := r.toNat) (by omega))
  have hdr := xy (W := W) (H := H) (r := r) w1 r0 r1
  refine ⟨by omega, ?_⟩
  unfold repV
  rw [repG_le]
  refine ⟨by omega, fun q hq _ => ?_⟩
  have c := hok _ (row_mem hq)
  have d := xy (W := W) (H := H) (r := (q : Int)) w1 (by omega) (by omega)
  simp only [Nat.zero_add, dep]
  omega

theorem law82 {pre : Nat → List (List D) → Prop} {fn : Nat → List (List D) → Nat → Nat → D} {m : Int}
    (hp83 : ∀ a b c k, (1 ≤ a ∧ a ≤ 8) → 0 ≤ k → k ≤ 64 → pre 83 [[.i a, .i b, .i c], [.i k]]) (hf83 : ∀ a b c k, fn 83 [[.i a, .i b, .i c], [.i k]] 0 0 = .i (abv a k))
    (hp82 : ∀ a b c l r, repPre a b l r → ((l.length : Nat) : Int) - r < m → pre 82 [[.i a, .i b, .i c], [.l l], [.i r]]) (hf82 : ∀ a b c l r, fn 82 [[.i a, .i b, .i c], [.l l], [.i r]] 0 0 = .i (repV a l r))
    {a0_0 a0_1 a0_2 : Int} {a1 : Rows} {a2 : Int} (h : repPre a0_0 a0_1 a1 a2) (hm : ((a1.length : Nat) : Int) - a2 < m + 1) {R : Nat → Nat → D} (hR : R 0 0 = .i (repV a0_0 a1 a2)) :
    V82 pre fn a0_0 a0_1 a0_2 a1 a2 R
      (fun t k => ∃ q : Nat, k = q ∧ 1 ≤ q ∧ q ≤ a1.length ∧ 0 ≤ t ∧ t ≤ 10300 ∧ ∀ B, t ≤ B ↔ wI (a1.getD a2.toNat []) ≤ B ∧ ∀ j : Nat, 1 ≤ j → j < q → (j : Int) ≠ a2 → abv a0_0 j = a2 → repV a0_0 a1 j + 1 ≤ B)
      (fun _ k => (a1.length - k).toNat) := by
  have hpre := h
  obtain ⟨⟨w1, w2⟩, ⟨h1, h2⟩, hl, hok, r0, r1⟩ := h
  have hwh := wh_bd w1 w2 h1 h2
  have hi : ∀ n : Int, (D.i n).int = n := fun _ => rfl
  have hb0 := hok _ (row_mem (l := a1) (q := a2.toNat) (by omega))
  constructor
  all_goals (try (intro t k hI; obtain ⟨q, hx, hq1, hq2, ht0, ht1, hB⟩ := hI; subst hx))
  all_goals (intros; (try simp only [hf83, hf82, hi, Int.toNat_natCast, gt_wI, mxI_eq] at *))
  all_goals (try omega)
  case i0 => exact ⟨1, rfl, by omega, by omega, by omega, by omega, fun B => ⟨fun h => ⟨h, fun j j1 j2 => by omega⟩, fun h => h.1⟩⟩
  case g4 => exact hp83 _ _ _ _ ⟨w1, w2⟩ (by omega) (by omega)
  case g13 =>
    have hq : q = a1.length := by omega
    subst hq
    rw [hR]
    have e : repV a0_0 a1 a2 = t := Int.le_antisymm ((repV_le (H := a0_1) w1 hl r0 r1 t).2 ((hB t).1 (Int.le_refl _))) ((hB _).2 ((repV_le (H := a0_1) w1 hl r0 r1 _).1 (Int.le_refl _)))
    rw [e]
  all_goals (have hsp := abv_spec (W := a0_0) (H := a0_1) (k := (q : Int)) w1 (by omega) (by omega); obtain ⟨s1, s2, s3, s4⟩ := hsp)
  all_goals (have hqp : repPre a0_0 a0_1 a1 q := ⟨⟨w1, w2⟩, ⟨h1, h2⟩, hl, hok, by omega, by omega⟩)
  all_goals (have hqb := repV_bd hqp)
  all_goals (try omega)
  case g5 => exact hp82 _ _ _ _ _ hqp (by omega)
  case n8 =>
    refine ⟨⟨q + 1, rfl, by omega, by omega, by omega, by omega, fun B => ⟨fun hm => ?_, fun hm => ?_⟩⟩, by omega⟩
    · obtain ⟨b1, b2⟩ := (hB B).1 (by omega)
      refine ⟨b1, fun j j1 j2 j3 j4 => ?_⟩
      by_cases e : j = q
      · subst e; omega
      · exact b2 j j1 (by omega) j3 j4
    · have b1 := (hB B).2 ⟨hm.1, fun j j1 j2 j3 j4 => hm.2 j j1 (by omega) j3 j4⟩
      have b2 := hm.2 q hq1 (by omega) (by assumption) (by assumption)
      omega
  case n10 =>
    refine ⟨⟨q + 1, rfl, by omega, by omega, by omega, by omega, fun B => ⟨fun hm => ?_, fun hm => ?_⟩⟩, by omega⟩
    · obtain ⟨b1, b2⟩ := (hB B).1 hm
      refine ⟨b1, fun j j1 j2 j3 j4 => ?_⟩
      by_cases e : j = q
      · subst e; exact absurd j4 (by assumption)
      · exact b2 j j1 (by omega) j3 j4
    · exact (hB B).2 ⟨hm.1, fun j j1 j2 j3 j4 => hm.2 j j1 (by omega) j3 j4⟩
  case n12 =>
    refine ⟨⟨q + 1, rfl, by omega, by omega, by omega, by omega, fun B => ⟨fun hm => ?_, fun hm => ?_⟩⟩, by omega⟩
    · obtain ⟨b1, b2⟩ := (hB B).1 hm
      refine ⟨b1, fun j j1 j2 j3 j4 => ?_⟩
      by_cases e : j = q
      · subst e; exact absurd (by assumption) j3
      · exact b2 j j1 (by omega) j3 j4
    · exact (hB B).2 ⟨hm.1, fun j j1 j2 j3 j4 => hm.2 j j1 (by omega) j3 j4⟩

theorem law21 {a0 a1 : Rows} (hl : a0.length ≤ 9223372036854775807) (h : a0 = a1) {R : Nat → Nat → D} (hR : R 0 0 = .b true) :
    V21 a0 a1 R (fun _ x => ∃ r : Nat, x = r ∧ r ≤ a0.length) (fun _ x => (a0.length - x).toNat) := by
  subst h
  constructor
  all_goals (try (intro s x ⟨r, hx, hr⟩; subst hx))
  all_goals (intros; (try simp only [Int.toNat_natCast] at *))
  all_goals (try omega)
  case i0 => exact ⟨0, rfl, by omega⟩
  case n10 => exact ⟨⟨r + 1, by omega, by omega⟩, by omega⟩
  all_goals first
    | exact hR
    | (exfalso; rename_i h; exact h trivial)
    | (exfalso; rename_i h; exact h rfl)

theorem law40 {pre : Nat → List (List D) → Prop} {fn : Nat → List (List D) → Nat → Nat → D} (hp18 : ∀ x, pre 18 x) (hf18 : ∀ a b c, fn 18 [[.i a, .i b, .i c]] 0 0 = .i (chkS a b c))
    (hp83 : ∀ a b c k, (1 ≤ a ∧ a ≤ 8) → 0 ≤ k → k ≤ 64 → pre 83 [[.i a, .i b, .i c], [.i k]]) (hf83 : ∀ a b c k, fn 83 [[.i a, .i b, .i c], [.i k]] 0 0 = .i (abv a k))
    (hp82 : ∀ a b c l r, repPre a b l r → pre 82 [[.i a, .i b, .i c], [.l l], [.i r]]) (hf82 : ∀ a b c l r, fn 82 [[.i a, .i b, .i c], [.l l], [.i r]] 0 0 = .i (repV a l r))
    {a0_0 a0_1 a0_2 : Int} {a1 : Rows} {R : Nat → Nat → D} (hR0 : R 0 0 = .l (brL a0_0 a0_1 a0_2 a1)) (hR1 : R 1 0 = .i (brE a0_0 a0_1 a0_2 a1)) :
    V40 pre fn a0_0 a0_1 a0_2 a1 R
      (fun _ _ i => ∃ r : Nat, i = r ∧ r ≤ a1.length ∧ ∀ q < r, 0 ≤ wI (a1.getD q []) ∧ wI (a1.getD q []) ≤ 10000) (fun _ _ i => (a1.length - i).toNat)
      (fun _ _ _ o i => ∃ r : Nat, i = r ∧ r ≤ a1.length ∧ o = outB a0_0 (repV a0_0 a1 0) r) (fun _ _ _ _ i => (a1.length - i).toNat)
      (fun _ _ _ _ i t k => 0 ≤ k ∧ k ≤ i ∧ t + dep a0_0 k = repV a0_0 a1 0 + dep a0_0 i) (fun _ _ _ _ _ _ k => k.toNat) := by
  have hi : ∀ n : Int, (D.i n).int = n := fun _ => rfl
  constructor
  all_goals (try (intro x0 x1 i hI; obtain ⟨r, hx, hr, hq⟩ := hI; subst hx))
  all_goals (try (intro o j hJ; obtain ⟨s, hx1, hs, ho⟩ := hJ; subst hx1; subst ho))
  all_goals (try (intro t k hK; obtain ⟨k0, k1, hk⟩ := hK))
  all_goals (intros; (try simp only [hf18, hp18, hf83, hf82, hi, Int.toNat_natCast, gt_wI, List.length_append, outB_len, List.length_cons, List.length_nil] at *))
  case g1 => rename_i h; rw [hR0, brL, if_neg (by rw [brE, if_neg h]; omega)]
  case g2 => rename_i h; rw [hR1, brE, if_neg h, chkS_ne h]
  all_goals (have hc := ‹chkS a0_0 a0_1 a0_2 = 0›; obtain ⟨c1, c2, c3⟩ := chkS_0 hc; have hwh := wh_bd c1.1 c1.2 c2.1 c2.2)
  all_goals (try omega)
  case g4 => have h := ‹¬ ((a1.length : Nat) : Int) = a0_0 * a0_1›; rw [hR0, brL, if_neg (by rw [brE, if_pos hc, if_neg h]; omega)]
  case g5 => have h := ‹¬ ((a1.length : Nat) : Int) = a0_0 * a0_1›; rw [hR1, brE, if_pos hc, if_neg h]
  case i0 => exact ⟨0, rfl, by omega, fun q hq => by omega⟩
  all_goals (have hl := ‹((a1.length : Nat) : Int) = a0_0 * a0_1›)
  case g10 =>
    have hn : ¬ okT a1 := fun h => by have := (h _ (row_mem (l := a1) (q := r) (by omega))).1; omega
    rw [hR0, brL, if_neg (by rw [brE, if_pos hc, if_pos hl, if_neg hn]; omega)]
  case g11 =>
    have hn : ¬ okT a1 := fun h => by have := (h _ (row_mem (l := a1) (q := r) (by omega))).1; omega
    rw [hR1, brE, if_pos hc, if_pos hl, if_neg hn]
  case g15 =>
    have hn : ¬ okT a1 := fun h => by have := (h _ (row_mem (l := a1) (q := r) (by omega))).2; omega
    rw [hR0, brL, if_neg (by rw [brE, if_pos hc, if_pos hl, if_neg hn]; omega)]
  case g16 =>
    have hn : ¬ okT a1 := fun h => by have := (h _ (row_mem (l := a1) (q := r) (by omega))).2; omega
    rw [hR1, brE, if_pos hc, if_pos hl, if_neg hn]
  case n18 =>
    refine ⟨⟨r + 1, by omega, by omega, fun q h => ?_⟩, by omega⟩
    by_cases e : q = r
    · subst e; omega
    · exact hq q (by omega)
  all_goals (have hok : okT a1 := fun x hx => by obtain ⟨q, hq1, rfl⟩ := mem_row hx; exact hq q (by omega))
  all_goals (have hE : brE a0_0 a0_1 a0_2 a1 = 0 := by rw [brE, if_pos hc, if_pos hl, if_pos hok])
  all_goals (have hp0 : repPre a0_0 a0_1 a1 0 := ⟨c1, c2, hl, hok, by omega, by omega⟩)
  all_goals (have hb0 := repV_bd hp0)
  case g19 => exact hp82 _ _ _ _ _ hp0
  case i1 => exact ⟨0, by omega, by omega, rfl⟩
  case g28 =>
    have e : s = a1.length := by omega
    subst e
    rw [hR0, brL, if_pos hE, repV_0 (H := a0_1) c1.1 c2.1 hl hok (by omega)]
  case g29 => rw [hR1, hE]
  all_goals (try omega)
  case i2 => exact ⟨by omega, by omega, trivial⟩
  case g23 => exact hp83 _ _ _ _ c1 (by omega) (by omega)
  all_goals (have hds := xy (W := a0_0) (H := a0_1) (r := (s : Int)) c1.1 (by omega) (by omega); have hdk := xy (W := a0_0) (H := a0_1) (r := k) c1.1 (by omega) (by omega))
  all_goals (try (simp only [dep] at *; omega))
  case n24 =>
    obtain ⟨s1, s2, s3, s4⟩ := abv_spec (W := a0_0) (H := a0_1) (k := k) c1.1 (by omega) (by omega)
    exact ⟨⟨by omega, by omega, by omega⟩, by omega⟩
  case n27 =>
    have e0 : k = 0 := by omega
    subst e0
    have hz : dep a0_0 0 = 0 := by unfold dep; rw [Int.zero_tmod, Int.zero_tdiv]; rfl
    refine ⟨⟨s + 1, by omega, by omega, ?_⟩, by omega⟩
    have ht : t = (repV a0_0 a1 0 + Int.tmod s a0_0) + Int.tdiv s a0_0 := by unfold dep at hk hz; omega
    rw [ht, outB, outB, List.range_succ, List.map_append]; rfl

theorem law7 {pre : Nat → List (List D) → Prop} {fn : Nat → List (List D) → Nat → Nat → D} (hp13 : pre 13 []) (hf13 : fn 13 [] 0 0 = .b true) (hp39 : ∀ x, pre 39 x) (hp40 : ∀ x, pre 40 x) (hf : ∀ x, fn 39 x = fn 40 x)
    (hp21 : ∀ x, pre 21 [[.l x], [.l x]]) (hf21 : ∀ x, fn 21 [[.l x], [.l x]] 0 0 = .b true) {a0_0 a0_1 a0_2 : Int} {a1 : Rows} {R : Nat → Nat → D} (hR : R 0 0 = .b true) : V7 pre fn a0_0 a0_1 a0_2 a1 R := by
  have hb : ∀ b : Bool, (D.b b).boo = b := fun _ => rfl
  constructor
  all_goals intros
  all_goals (simp only [hf, hf21, hp39, hp40, hp21, hf13, hb] at *)
  all_goals first
    | exact hR
    | exact hp13
    | contradiction
    | trivial
    | skip
end HX

namespace HX
open Go Go.Proofs CX
set_option maxHeartbeats 4000000 in
set_option maxRecDepth 100000 in
theorem walk82 {ro A pre fn} (hE : EnvOk ⟨A, (cxE ro), ksF, sigL [(82, ⟨[(true, [.int .i64, .int .i64, .int .i64]), (false, [.sl [.int .i64]]), (false, [.int .i64])], [(false, [.int .i64])], false⟩), (83, ⟨[(true, [.int .i64, .int .i64, .int .i64]), (false, [.int .i64])], [(false, [.int .i64])], false⟩)], pre, fn⟩) {P : List (List D) → Prop} {res : List (List D) → Nat → Nat → D}
    (hv : ∀ (a0_0 : Int) (a0_1 : Int) (a0_2 : Int) (a1 : Rows) (a2 : Int), ShR [.int .i64] a1 → P [[.i a0_0, .i a0_1, .i a0_2], [.l a1], [.i a2]] → ∃ (I0 : Int → Int → Prop) (m0 : Int → Int → Nat), V82 pre fn a0_0 a0_1 a0_2 a1 a2 (res [[.i a0_0, .i a0_1, .i a0_2], [.l a1], [.i a2]]) I0 m0) :
    PureC (cxE ro) 82 ⟨[(true, [.int .i64, .int .i64, .int .i64]), (false, [.sl [.int .i64]]), (false, [.int .i64])], [(false, [.int .i64])], false⟩ P res := by
  have hA := hE.A
  simp only [] at hA
  have hinl : ∀ f fn, inlL [] f = some fn → (cxE ro).fn f = some fn ∧ (cxE ro).ext f = none := Inls.ok (by repeat (first | exact .nil | refine .cons rfl rfl ?_))
  refine PureC.of_vc hE hinl 6 (f := 82) (fn := Try.f82) ⟨rfl, rfl⟩ ?_
  intro a0_0 a0_1 a0_2 a1 ha1 a2 hP
  obtain ⟨R, hR⟩ : ∃ R, res [[.i a0_0, .i a0_1, .i a0_2], [.l a1], [.i a2]] = R := ⟨_, rfl⟩
  rw [hR]
  obtain ⟨I0, m0, hV⟩ := hv a0_0 a0_1 a0_2 a1 a2 ha1 hP
  rw [hR] at hV
  clear hR hP hv
  cbv
  repeat' (first | (refine Br.mk (fun _ => ?_) (fun _ => ?_) <;> cbv) | (refine NilB.mk (fun _ => ?_) ?_ <;> cbv) | refine And.intro ?_ ?_ | exact True.intro)
  · subst hA; exact hV.g0
  · subst hA; exact hV.g1
  · subst hA; exact hV.g2
  · refine Leaf.gen fun σz hσz => ?_
    refine loopB hE hinl 6 [] [] [] (fun x : Int × Int => [.i x.1, .i x.2]) (fun x => I0 x.1 x.2) (fun x => m0 x.1 x.2) (A.di (A.get a1 (A.toNat a2) 0), 1) (by subst hA; exact hV.i0) ?_ ?_ <;> subst hσz
    · clear hE hinl hV; cbv; (try (repeat' (first | exact True.intro | rfl | assumption | apply And.intro)))
    · intro ⟨x0_0, x0_1⟩ hI0 K0 hK0
      cbv
      repeat' (first | (refine Br.mk (fun _ => ?_) (fun _ => ?_) <;> cbv) | (refine NilB.mk (fun _ => ?_) ?_ <;> cbv) | refine And.intro ?_ ?_ | exact True.intro)
      · rename_i hp4_0 hp4_1
        subst hA; exact hV.g4 _ _ hI0 (dt hp4_0) (df (nt hp4_1))
      · rename_i hp5_0 hp5_1 hp5_2
        subst hA; exact hV.g5 _ _ hI0 (dt hp5_0) (df (nt hp5_1)) (dt hp5_2)
      · rename_i hp6_0 hp6_1 hp6_2
        subst hA; exact hV.g6 _ _ hI0 (dt hp6_0) (df (nt hp6_1)) (dt hp6_2)
      · rename_i hp7_0 hp7_1 hp7_2
        subst hA; exact hV.g7 _ _ hI0 (dt hp7_0) (df (nt hp7_1)) (dt hp7_2)
      · rename_i hp8_0 hp8_1 hp8_2
        refine hK0 (A.max x0_0 (A.add (A.di (fn 82 [[D.i a0_0, D.i a0_1, D.i a0_2], [D.l a1], [D.i x0_1]] 0 0)) 1), A.add x0_1 1) _ ?_ ?_ ?_
        · subst hA; exact (hV.n8 _ _ hI0 (dt hp8_0) (df (nt hp8_1)) (dt hp8_2)).1
        · subst hA; exact (hV.n8 _ _ hI0 (dt hp8_0) (df (nt hp8_1)) (dt hp8_2)).2
        · clear hE hinl hV hK0; cbv; (try (repeat' (first | exact True.intro | rfl | assumption | apply And.intro)))
      · rename_i hp9_0 hp9_1 hp9_2
        subst hA; exact hV.g9 _ _ hI0 (dt hp9_0) (df (nt hp9_1)) (df hp9_2)
      · rename_i hp10_0 hp10_1 hp10_2
        refine hK0 (x0_0, A.add x0_1 1) _ ?_ ?_ ?_
        · subst hA; exact (hV.n10 _ _ hI0 (dt hp10_0) (df (nt hp10_1)) (df hp10_2)).1
        · subst hA; exact (hV.n10 _ _ hI0 (dt hp10_0) (df (nt hp10_1)) (df hp10_2)).2
        · clear hE hinl hV hK0; cbv; (try (repeat' (first | exact True.intro | rfl | assumption | apply And.intro)))
      · rename_i hp11_0 hp11_1
        subst hA; exact hV.g11 _ _ hI0 (dt hp11_0) (dt (nf hp11_1))
      · rename_i hp12_0 hp12_1
        refine hK0 (x0_0, A.add x0_1 1) _ ?_ ?_ ?_
        · subst hA; exact (hV.n12 _ _ hI0 (dt hp12_0) (dt (nf hp12_1))).1
        · subst hA; exact (hV.n12 _ _ hI0 (dt hp12_0) (dt (nf hp12_1))).2
        · clear hE hinl hV hK0; cbv; (try (repeat' (first | exact True.intro | rfl | assumption | apply And.intro)))
      · rename_i hp13_0
        subst hA; exact hV.g13 _ _ hI0 (df hp13_0)
end HX

namespace HX
open Go Go.Proofs CX
set_option maxHeartbeats 4000000 in
set_option maxRecDepth 100000 in
theorem walk83 {ro A pre fn} (hE : EnvOk ⟨A, (cxE ro), ksF, sigL [], pre, fn⟩) {P : List (List D) → Prop} {res : List (List D) → Nat → Nat → D}
    (hv : ∀ (a0_0 : Int) (a0_1 : Int) (a0_2 : Int) (a1 : Int), P [[.i a0_0, .i a0_1, .i a0_2], [.i a1]] → V83 a0_0 a0_1 a0_2 a1 (res [[.i a0_0, .i a0_1, .i a0_2], [.i a1]]) ) :
    PureC (cxE ro) 83 ⟨[(true, [.int .i64, .int .i64, .int .i64]), (false, [.int .i64])], [(false, [.int .i64])], false⟩ P res := by
  have hA := hE.A
  simp only [] at hA
  have hinl : ∀ f fn, inlL [] f = some fn → (cxE ro).fn f = some fn ∧ (cxE ro).ext f = none := Inls.ok (by repeat (first | exact .nil | refine .cons rfl rfl ?_))
  refine PureC.of_vc hE hinl 6 (f := 83) (fn := Try.f83) ⟨rfl, rfl⟩ ?_
  intro a0_0 a0_1 a0_2 a1 hP
  obtain ⟨R, hR⟩ : ∃ R, res [[.i a0_0, .i a0_1, .i a0_2], [.i a1]] = R := ⟨_, rfl⟩
  rw [hR]
  have hV := hv a0_0 a0_1 a0_2 a1  hP
  rw [hR] at hV
  clear hR hP hv
  cbv
  repeat' (first | (refine Br.mk (fun _ => ?_) (fun _ => ?_) <;> cbv) | (refine NilB.mk (fun _ => ?_) ?_ <;> cbv) | refine And.intro ?_ ?_ | exact True.intro)
  · subst hA; exact hV.g0
  · rename_i hp1_0
    subst hA; exact hV.g1 (dt hp1_0)
  · rename_i hp2_0
    subst hA; exact hV.g2 (dt hp2_0)
  · rename_i hp3_0
    subst hA; exact hV.g3 (df hp3_0)
  · rename_i hp4_0
    subst hA; exact hV.g4 (df hp4_0)
end HX

namespace HX
open Go Go.Proofs CX
def p83 : List (List D) → Prop
  | [[.i a, .i _, .i _], [.i k]] => (1 ≤ a ∧ a ≤ 8) ∧ 0 ≤ k ∧ k ≤ 64
  | _ => False
def r83 : List (List D) → Nat → Nat → D
  | [[.i a, .i _, .i _], [.i k]], _, _ => .i (abv a k)
  | _, _, _ => .nil
def p82 (m : Nat) : List (List D) → Prop
  | [[.i a, .i b, .i _], [.l l], [.i r]] => repPre a b l r ∧ ((l.length : Nat) : Int) - r < m
  | _ => False
noncomputable def r82 : List (List D) → Nat → Nat → D
  | [[.i a, .i _, .i _], [.l l], [.i r]], _, _ => .i (repV a l r)
  | _, _, _ => .nil
noncomputable def c83r : Ctr := ⟨83, ⟨[(true, [.int .i64, .int .i64, .int .i64]), (false, [.int .i64])], [(false, [.int .i64])], false⟩, p83, r83⟩
noncomputable def c82r (m : Nat) : Ctr := ⟨82, ⟨[(true, [.int .i64, .int .i64, .int .i64]), (false, [.sl [.int .i64]]), (false, [.int .i64])], [(false, [.int .i64])], false⟩, p82 m, r82⟩
theorem k83r (ro : Addr → Option V) : PureC (cxE ro) c83r.f c83r.sg c83r.pre c83r.res := walk83 (envL (l := []) .nil) fun _ _ _ _ h => law83 h rfl
theorem p82_0 {ds : List (List D)} (h : p82 0 ds) : False := by
  unfold p82 at h
  split at h
  · obtain ⟨⟨_, _, h1, _, h2, h3⟩, h4⟩ := h; omega
  · exact h
theorem rec82 (ro : Addr → Option V) : ∀ m : Nat, PureC (cxE ro) 82 (c82r m).sg (p82 m) r82
  | 0 => fun _ h => (p82_0 h).elim
  | m + 1 => walk82 (envL (l := [c82r m, c83r]) (.cons (rec82 ro m) (.cons (k83r ro) .nil))) fun _ _ _ _ _ _ h =>
      ⟨_, _, law82 (m := (m : Int)) (fun _ _ _ _ h1 h2 h3 => ⟨h1, h2, h3⟩) (fun _ _ _ _ => rfl) (fun _ _ _ _ _ h1 h2 => ⟨h1, h2⟩) (fun _ _ _ _ _ => rfl) h.1 h.2 rfl⟩
end HX

namespace HX
open Go Go.Proofs CX
set_option maxHeartbeats 4000000 in
set_option maxRecDepth 100000 in
theorem walk17 {ro A pre fn} (hE : EnvOk ⟨A, (cxE ro), ksF, sigL [], pre, fn⟩) {P : List (List D) → Prop} {res : List (List D) → Nat → Nat → D}
    (hv : ∀ (a0_0 : Int) (a0_1 : Int) (a0_2 : Int), P [[.i a0_0, .i a0_1, .i a0_2]] → V17 a0_0 a0_1 a0_2 (res [[.i a0_0, .i a0_1, .i a0_2]]) ) :
    PureC (cxE ro) 17 ⟨[(true, [.int .i64, .int .i64, .int .i64])], [(false, [.int .i64])], false⟩ P res := by
  have hA := hE.A
  simp only [] at hA
  have hinl : ∀ f fn, inlL [] f = some fn → (cxE ro).fn f = some fn ∧ (cxE ro).ext f = none := Inls.ok (by repeat (first | exact .nil | refine .cons rfl rfl ?_))
  refine PureC.of_vc hE hinl 6 (f := 17) (fn := Try.f17) ⟨rfl, rfl⟩ ?_
  intro a0_0 a0_1 a0_2 hP
  obtain ⟨R, hR⟩ : ∃ R, res [[.i a0_0, .i a0_1, .i a0_2]] = R := ⟨_, rfl⟩
  rw [hR]
  have hV := hv a0_0 a0_1 a0_2  hP
  rw [hR] at hV
  clear hR hP hv
  cbv
  repeat' (first | (refine Br.mk (fun _ => ?_) (fun _ => ?_) <;> cbv) | (refine NilB.mk (fun _ => ?_) ?_ <;> cbv) | refine And.intro ?_ ?_ | exact True.intro)
  · rename_i hp0_0
    subst hA; exact hV.g0 (dt hp0_0)
  · rename_i hp1_0 hp1_1
    subst hA; exact hV.g1 (df hp1_0) (dt hp1_1)
  · rename_i hp2_0 hp2_1 hp2_2
    subst hA; exact hV.g2 (df hp2_0) (df hp2_1) (dt hp2_2)
  · rename_i hp3_0 hp3_1 hp3_2
    subst hA; exact hV.g3 (df hp3_0) (df hp3_1) (df hp3_2)
end HX

namespace HX
open Go Go.Proofs CX
set_option maxHeartbeats 4000000 in
set_option maxRecDepth 100000 in
theorem walk18 {ro A pre fn} (hE : EnvOk ⟨A, (cxE ro), ksF, sigL [], pre, fn⟩) {P : List (List D) → Prop} {res : List (List D) → Nat → Nat → D}
    (hv : ∀ (a0_0 : Int) (a0_1 : Int) (a0_2 : Int), P [[.i a0_0, .i a0_1, .i a0_2]] → V18 a0_0 a0_1 a0_2 (res [[.i a0_0, .i a0_1, .i a0_2]]) ) :
    PureC (cxE ro) 18 ⟨[(true, [.int .i64, .int .i64, .int .i64])], [(false, [.int .i64])], false⟩ P res := by
  have hA := hE.A
  simp only [] at hA
  have hinl : ∀ f fn, inlL [] f = some fn → (cxE ro).fn f = some fn ∧ (cxE ro).ext f = none := Inls.ok (by repeat (first | exact .nil | refine .cons rfl rfl ?_))
  refine PureC.of_vc hE hinl 6 (f := 18) (fn := Try.f18) ⟨rfl, rfl⟩ ?_
  intro a0_0 a0_1 a0_2 hP
  obtain ⟨R, hR⟩ : ∃ R, res [[.i a0_0, .i a0_1, .i a0_2]] = R := ⟨_, rfl⟩
  rw [hR]
  have hV := hv a0_0 a0_1 a0_2  hP
  rw [hR] at hV
  clear hR hP hv
  cbv
  repeat' (first | (refine Br.mk (fun _ => ?_) (fun _ => ?_) <;> cbv) | (refine NilB.mk (fun _ => ?_) ?_ <;> cbv) | refine And.intro ?_ ?_ | exact True.intro)
  · rename_i hp0_0
    subst hA; exact hV.g0 (dt hp0_0)
  · rename_i hp1_0 hp1_1
    subst hA; exact hV.g1 (df hp1_0) (dt hp1_1)
  · rename_i hp2_0 hp2_1 hp2_2
    subst hA; exact hV.g2 (df hp2_0) (df hp2_1) (dt hp2_2)
  · rename_i hp3_0 hp3_1 hp3_2 hp3_3
    subst hA; exact hV.g3 (df hp3_0) (df hp3_1) (df hp3_2) (dt hp3_3)
  · rename_i hp4_0 hp4_1 hp4_2 hp4_3 hp4_4
    subst hA; exact hV.g4 (df hp4_0) (df hp4_1) (df hp4_2) (df hp4_3) (dt hp4_4)
  · rename_i hp5_0 hp5_1 hp5_2 hp5_3 hp5_4 hp5_5
    subst hA; exact hV.g5 (df hp5_0) (df hp5_1) (df hp5_2) (df hp5_3) (df hp5_4) (dt hp5_5)
  · rename_i hp6_0 hp6_1 hp6_2 hp6_3 hp6_4 hp6_5
    subst hA; exact hV.g6 (df hp6_0) (df hp6_1) (df hp6_2) (df hp6_3) (df hp6_4) (df hp6_5)
end HX

namespace HX
open Go Go.Proofs CX
set_option maxHeartbeats 4000000 in
set_option maxRecDepth 100000 in
theorem walk39 {ro A pre fn} (hE : EnvOk ⟨A, (cxE ro), ksF, sigL [(17, ⟨[(true, [.int .i64, .int .i64, .int .i64])], [(false, [.int .i64])], false⟩)], pre, fn⟩) {P : List (List D) → Prop} {res : List (List D) → Nat → Nat → D}
    (hv : ∀ (a0_0 : Int) (a0_1 : Int) (a0_2 : Int) (a1 : Rows), ShR [.int .i64] a1 → P [[.i a0_0, .i a0_1, .i a0_2], [.l a1]] → ∃ (I0 : Rows → Int → Int → Int → Prop) (m0 : Rows → Int → Int → Int → Nat) (I1 : Rows → Int → Int → Int → Int → Rows → Prop) (m1 : Rows → Int → Int → Int → Int → Rows → Nat), V39 pre fn a0_0 a0_1 a0_2 a1 (res [[.i a0_0, .i a0_1, .i a0_2], [.l a1]]) I0 m0 I1 m1) :
    PureC (cxE ro) 39 ⟨[(true, [.int .i64, .int .i64, .int .i64]), (false, [.sl [.int .i64]])], [(false, [.sl [.int .i64]]), (false, [.int .i64])], false⟩ P res := by
  have hA := hE.A
  simp only [] at hA
  have hinl : ∀ f fn, inlL [(50, Try.f50)] f = some fn → (cxE ro).fn f = some fn ∧ (cxE ro).ext f = none := Inls.ok (by repeat (first | exact .nil | refine .cons rfl rfl ?_))
  refine PureC.of_vc hE hinl 6 (f := 39) (fn := Try.f39) ⟨rfl, rfl⟩ ?_
  intro a0_0 a0_1 a0_2 a1 ha1 hP
  obtain ⟨R, hR⟩ : ∃ R, res [[.i a0_0, .i a0_1, .i a0_2], [.l a1]] = R := ⟨_, rfl⟩
  rw [hR]
  obtain ⟨I0, m0, I1, m1, hV⟩ := hv a0_0 a0_1 a0_2 a1 ha1 hP
  rw [hR] at hV
  clear hR hP hv
  cbv
  repeat' (first | (refine Br.mk (fun _ => ?_) (fun _ => ?_) <;> cbv) | (refine NilB.mk (fun _ => ?_) ?_ <;> cbv) | refine And.intro ?_ ?_ | exact True.intro)
  · subst hA; exact hV.g0
  · rename_i hp1_0
    subst hA; exact hV.g1 (df (nt hp1_0))
  · rename_i hp2_0
    subst hA; exact hV.g2 (df (nt hp2_0))
  · rename_i hp3_0
    subst hA; exact hV.g3 (dt (nf hp3_0))
  · rename_i hp4_0 hp4_1
    subst hA; exact hV.g4 (dt (nf hp4_0)) (df (nt hp4_1))
  · rename_i hp5_0 hp5_1
    subst hA; exact hV.g5 (dt (nf hp5_0)) (df (nt hp5_1))
  · rename_i hp6_0 hp6_1
    refine Leaf.gen fun σz hσz => ?_
    refine loopB hE hinl 6 [] [] [] (fun x : Rows × Int × Int × Int => [.l x.1, .i x.2.1, .i x.2.2.1, .i x.2.2.2]) (fun x => I0 x.1 x.2.1 x.2.2.1 x.2.2.2) (fun x => m0 x.1 x.2.1 x.2.2.1 x.2.2.2) ([], 0, 0, 0) (by subst hA; exact hV.i0 (dt (nf hp6_0)) (dt (nf hp6_1))) ?_ ?_ <;> subst hσz
    · clear hE hinl hV; cbv; (try (repeat' (first | exact True.intro | rfl | assumption | apply And.intro)))
    · intro ⟨x0_0, x0_1, x0_2, x0_3⟩ hI0 K0 hK0
      cbv
      repeat' (first | (refine Br.mk (fun _ => ?_) (fun _ => ?_) <;> cbv) | (refine NilB.mk (fun _ => ?_) ?_ <;> cbv) | refine And.intro ?_ ?_ | exact True.intro)
      · rename_i hp7_0
        subst hA; exact hV.g7 _ _ _ _ hI0 (dt (nf hp6_0)) (dt (nf hp6_1)) (dt hp7_0)
      · rename_i hp8_0
        subst hA; exact hV.g8 _ _ _ _ hI0 (dt (nf hp6_0)) (dt (nf hp6_1)) (dt hp8_0)
      · rename_i hp9_0
        subst hA; exact hV.g9 _ _ _ _ hI0 (dt (nf hp6_0)) (dt (nf hp6_1)) (dt hp9_0)
      · rename_i hp10_0 hp10_1
        subst hA; exact hV.g10 _ _ _ _ hI0 (dt (nf hp6_0)) (dt (nf hp6_1)) (dt hp10_0) (dt hp10_1)
      · rename_i hp11_0 hp11_1
        subst hA; exact hV.g11 _ _ _ _ hI0 (dt (nf hp6_0)) (dt (nf hp6_1)) (dt hp11_0) (dt hp11_1)
      · rename_i hp12_0 hp12_1 hp12_2
        subst hA; exact hV.g12 _ _ _ _ hI0 (dt (nf hp6_0)) (dt (nf hp6_1)) (dt hp12_0) (df hp12_1) (dt hp12_2)
      · rename_i hp13_0 hp13_1 hp13_2
        subst hA; exact hV.g13 _ _ _ _ hI0 (dt (nf hp6_0)) (dt (nf hp6_1)) (dt hp13_0) (df hp13_1) (dt hp13_2)
      · rename_i hp14_0 hp14_1 hp14_2
        subst hA; exact hV.g14 _ _ _ _ hI0 (dt (nf hp6_0)) (dt (nf hp6_1)) (dt hp14_0) (df hp14_1) (df hp14_2)
      · rename_i hp15_0 hp15_1 hp15_2
        subst hA; exact hV.g14 _ _ _ _ hI0 (dt (nf hp6_0)) (dt (nf hp6_1)) (dt hp15_0) (df hp15_1) (df hp15_2)
      · rename_i hp16_0 hp16_1 hp16_2
        subst hA; exact hV.g16 _ _ _ _ hI0 (dt (nf hp6_0)) (dt (nf hp6_1)) (dt hp16_0) (df hp16_1) (df hp16_2)
      · rename_i hp17_0 hp17_1 hp17_2
        subst hA; exact hV.g17 _ _ _ _ hI0 (dt (nf hp6_0)) (dt (nf hp6_1)) (dt hp17_0) (df hp17_1) (df hp17_2)
      · rename_i hp18_0 hp18_1 hp18_2
        subst hA; exact hV.g18 _ _ _ _ hI0 (dt (nf hp6_0)) (dt (nf hp6_1)) (dt hp18_0) (df hp18_1) (df hp18_2)
      · rename_i hp19_0 hp19_1 hp19_2
        subst hA; exact hV.g19 _ _ _ _ hI0 (dt (nf hp6_0)) (dt (nf hp6_1)) (dt hp19_0) (df hp19_1) (df hp19_2)
      · rename_i hp20_0 hp20_1 hp20_2
        refine hK0 (x0_0, x0_1, A.max x0_2 (A.add (A.add (A.di (A.get a1 (A.toNat x0_3) 0)) (A.tmod x0_3 a0_0)) (A.tdiv x0_3 a0_0)), A.add x0_3 1) _ ?_ ?_ ?_
        · subst hA; exact (hV.n20 _ _ _ _ hI0 (dt (nf hp6_0)) (dt (nf hp6_1)) (dt hp20_0) (df hp20_1) (df hp20_2)).1
        · subst hA; exact (hV.n20 _ _ _ _ hI0 (dt (nf hp6_0)) (dt (nf hp6_1)) (dt hp20_0) (df hp20_1) (df hp20_2)).2
        · clear hE hinl hV hK0; cbv; (try (repeat' (first | exact True.intro | rfl | assumption | apply And.intro)))
      · rename_i hp21_0
        subst hA; exact hV.g21 _ _ _ _ hI0 (dt (nf hp6_0)) (dt (nf hp6_1)) (df hp21_0)
      · rename_i hp22_0
        subst hA; exact hV.g22 _ _ _ _ hI0 (dt (nf hp6_0)) (dt (nf hp6_1)) (df hp22_0)
      · rename_i hp23_0
        subst hA; exact hV.g23 _ _ _ _ hI0 (dt (nf hp6_0)) (dt (nf hp6_1)) (df hp23_0)
      · rename_i hp24_0
        subst hA; exact hV.g24 _ _ _ _ hI0 (dt (nf hp6_0)) (dt (nf hp6_1)) (df hp24_0)
      · rename_i hp25_0
        refine Leaf.gen fun σz hσz => ?_
        refine loopB hE hinl 6 [] [] [(5, [])] (fun x : Int × Rows => [.i x.1, .l x.2]) (fun x => I1 x0_0 x0_1 x0_2 x0_3 x.1 x.2) (fun x => m1 x0_0 x0_1 x0_2 x0_3 x.1 x.2) (0, A.rep (A.toNat (A.nat (A.len a1))) [D.i 0]) (by subst hA; exact hV.i1 _ _ _ _ hI0 (dt (nf hp6_0)) (dt (nf hp6_1)) (df hp25_0)) ?_ ?_ <;> subst hσz
        · clear hE hinl hV; cbv; (try (repeat' (first | exact True.intro | rfl | assumption | apply And.intro)))
        · intro ⟨x1_0, x1_1⟩ hI1 K1 hK1
          cbv
          repeat' (first | (refine Br.mk (fun _ => ?_) (fun _ => ?_) <;> cbv) | (refine NilB.mk (fun _ => ?_) ?_ <;> cbv) | refine And.intro ?_ ?_ | exact True.intro)
          · rename_i hp26_0
            subst hA; exact hV.g26 _ _ _ _ hI0 _ _ hI1 (dt (nf hp6_0)) (dt (nf hp6_1)) (df hp25_0) (dt hp26_0)
          · rename_i hp27_0
            subst hA; exact hV.g26 _ _ _ _ hI0 _ _ hI1 (dt (nf hp6_0)) (dt (nf hp6_1)) (df hp25_0) (dt hp27_0)
          · rename_i hp28_0
            subst hA; exact hV.g28 _ _ _ _ hI0 _ _ hI1 (dt (nf hp6_0)) (dt (nf hp6_1)) (df hp25_0) (dt hp28_0)
          · rename_i hp29_0
            subst hA; exact hV.g29 _ _ _ _ hI0 _ _ hI1 (dt (nf hp6_0)) (dt (nf hp6_1)) (df hp25_0) (dt hp29_0)
          · rename_i hp30_0
            subst hA; exact hV.g30 _ _ _ _ hI0 _ _ hI1 (dt (nf hp6_0)) (dt (nf hp6_1)) (df hp25_0) (dt hp30_0)
          · rename_i hp31_0
            subst hA; exact hV.g31 _ _ _ _ hI0 _ _ hI1 (dt (nf hp6_0)) (dt (nf hp6_1)) (df hp25_0) (dt hp31_0)
          · rename_i hp32_0
            subst hA; exact hV.g32 _ _ _ _ hI0 _ _ hI1 (dt (nf hp6_0)) (dt (nf hp6_1)) (df hp25_0) (dt hp32_0)
          · rename_i hp33_0
            subst hA; exact hV.g33 _ _ _ _ hI0 _ _ hI1 (dt (nf hp6_0)) (dt (nf hp6_1)) (df hp25_0) (dt hp33_0)
          · rename_i hp34_0
            subst hA; exact hV.g34 _ _ _ _ hI0 _ _ hI1 (dt (nf hp6_0)) (dt (nf hp6_1)) (df hp25_0) (dt hp34_0)
          · rename_i hp35_0
            refine hK1 (A.add x1_0 1, A.set x1_1 (A.toNat x1_0) [D.i (A.add (A.add x0_2 (A.tmod x1_0 a0_0)) (A.tdiv x1_0 a0_0))]) _ ?_ ?_ ?_
            · subst hA; exact (hV.n35 _ _ _ _ hI0 _ _ hI1 (dt (nf hp6_0)) (dt (nf hp6_1)) (df hp25_0) (dt hp35_0)).1
            · subst hA; exact (hV.n35 _ _ _ _ hI0 _ _ hI1 (dt (nf hp6_0)) (dt (nf hp6_1)) (df hp25_0) (dt hp35_0)).2
            · clear hE hinl hV hK1; cbv; (try (repeat' (first | exact True.intro | rfl | assumption | apply And.intro)))
          · rename_i hp36_0
            subst hA; exact hV.g36 _ _ _ _ hI0 _ _ hI1 (dt (nf hp6_0)) (dt (nf hp6_1)) (df hp25_0) (df hp36_0)
          · rename_i hp37_0
            subst hA; exact hV.g37 _ _ _ _ hI0 _ _ hI1 (dt (nf hp6_0)) (dt (nf hp6_1)) (df hp25_0) (df hp37_0)
end HX
