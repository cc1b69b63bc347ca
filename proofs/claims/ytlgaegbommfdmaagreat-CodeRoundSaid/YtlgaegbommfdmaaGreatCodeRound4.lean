/-
  Texts of the executors: CxP, CxEnv, CxFn, CxP2, CxM, CxM2, CxM3.
-/
import Derived.Test.YtlgaegbommfdmaaGreatCodeRound3
import Derived.Laws.StructEq
import Derived.WalkKit
import Derived.ChangeKeysEq
import Derived.Laws.Append
import Derived.Laws.CopyRow
import Derived.Laws.Tables
import Derived.Lib.AppendZeros
import Derived.MapKept
import Derived.Laws.BytesString
/-
  CX: operations that look at no memory do what the executor says.
-/
namespace CX
open Go

def isAggD : TypeDesc → Bool
  | .struct _ => true
  | .array _ _ => true
  | _ => false

/-- A type's kind. -/
def KdOk (P : Program) : TK → TypeDesc → Prop
  | .other, d => ∀ ms, d ≠ .interface ms
  | .int k, d => d = .int k
  | .bool, d => d = .bool
  | .str, d => d = .string
  | .struct fs, d => ∃ fields, d = .struct fields ∧ fields.toList.map (fun f => (f.offset, f.type)) = fs ∧ ∀ f ∈ fields, ∃ i, P.info? f.type = some i
  | .arr n e, d => d = .array n e
  | .slice e, d => d = .slice e
  | .map k e, d => d = .map k e
  | .ptr e, d => d = .pointer e
  | .iface, _ => True

structure TyOk (P : Program) (t : Nat) (ty : Ty) : Prop where
  info : ∃ i z, P.info? t = some i ∧ i.size = ty.size ∧ i.bytes = ty.bytes ∧ i.zero = some z ∧ (∀ ρ n, RvL ρ n ty.zero z.cells.toList) ∧ (ty.agg = true → z = .agg z.cells) ∧ (ty.agg = false → z.cells = #[z])
  zlen : ty.zero.length = ty.size
  zone : ∀ v ∈ ty.zero, one1 v = true
  zt : ∀ i, i < ty.size → ty.zt.get i = ty.zero[i]?
  und : ∃ d, P.underlying t = some d ∧ isAggD d = ty.agg ∧ KdOk P ty.kd d
  eqp : ty.eqp = true → P.eqGuardType P.depth t = false ∧ ∀ (ρ : Nm) n a b xs ys r w, RvL ρ n a xs → RvL ρ n b ys → eqZ ty.zero a b = some r → (Op.equalIn 10000 t (.agg xs.toArray) (.agg ys.toArray)).run P w = .ok r w

structure EnvOk (E : Env) (P : Program) : Prop where
  T : ∀ t ty, E.T t = some ty → TyOk P t ty
  fn : ∀ f fn, E.fn f = some fn → P.funcs[f]? = some fn ∧ fn.name ≠ "runtime.NumGoroutine"
  mixed : P.follows .mixedOrders = true

theorem kind_ok {E : Env} {t : Nat} {k : TK} (h : kindOf E t = k) (hk : k ≠ .other) : ∃ ty, E.T t = some ty ∧ ty.kd = k := by
  unfold kindOf at h
  split at h
  · rename_i ty hty; exact ⟨ty, hty, h⟩
  · exact absurd h.symm hk

theorem und_of {E : Env} {P : Program} (hE : EnvOk E P) {t : Nat} {k : TK} (h : kindOf E t = k) (hk : k ≠ .other) : ∃ d, P.underlying t = some d ∧ KdOk P k d := by
  obtain ⟨ty, hty, h⟩ := kind_ok h hk
  obtain ⟨d, h1, _, h2⟩ := (hE.T t ty hty).und
  exact ⟨d, h1, by rw [← h]; exact h2⟩

theorem add_add (a : Addr) (n k : Nat) : (a.add n).add k = a.add (n + k) := by
  unfold Addr.add
  split <;> split <;> simp_all [Nat.add_assoc]
theorem add_at (b o n : Nat) : (⟨b, o, none⟩ : Addr).add n = ⟨b, o + n, none⟩ := by
  unfold Addr.add
  split <;> simp_all

theorem run_isAgg' {P : Program} {t : Nat} {d : TypeDesc} (h : P.underlying t = some d) (w : World) : (isAgg t).run P w = .ok (isAggD d) w := by
  simp only [isAgg, Sem.run_bind, run_underlying h, Result.andThen_ok]
  cases d <;> rfl
theorem run_sizeOf' {P : Program} {t : Nat} {i : TypeInfo} (h : P.info? t = some i) (w : World) : (Go.sizeOf t).run P w = .ok i.size w := by
  simp [Go.sizeOf, typeInfo, h]
theorem run_zeroValue' {P : Program} {t : Nat} {i : TypeInfo} {z : Value} (h : P.info? t = some i) (hz : i.zero = some z) (w : World) : (zeroValue t).run P w = .ok z w := by
  simp [zeroValue, typeInfo, h, hz]

theorem flat_cells {ρ : Nm} {n : Nat} {v : V} {u : Value} (h : Rv ρ n v u) (ho : ∀ x ∈ flat v, one1 x = true) : RvL ρ n (flat v) u.cells.toList := by
  cases v with
  | agg l =>
    simp only [Rv] at h
    obtain ⟨x, h1, rfl⟩ := h
    simpa [flat, Value.cells] using h1
  | tup l => simp [flat, one1] at ho
  | slc id es off ln c => cases c <;> (simp only [Rv] at h; obtain ⟨_, _, h⟩ := h)
                          · obtain ⟨L, c, o, h1, rfl, _⟩ := h
                            exact ⟨by simp only [Rv]; exact ⟨by assumption, by assumption, L, c, o, h1, rfl, by assumption⟩, trivial⟩
                          · obtain ⟨h0, L, h1, rfl⟩ := h
                            exact ⟨by simp only [Rv]; exact ⟨by assumption, by assumption, h0, L, h1, rfl⟩, trivial⟩
  | fn f a b =>
    have h0 := h
    cases f with
    | func f => simp only [Rv] at h; obtain ⟨x, y, _, _, rfl⟩ := h; exact ⟨h0, trivial⟩
    | yield f => simp only [Rv] at h; obtain ⟨_, L, x, y, _, _, _, rfl⟩ := h; exact ⟨h0, trivial⟩
  | int k x => have h0 := h; simp only [Rv] at h; subst h; exact ⟨h0, trivial⟩
  | bool b => have h0 := h; simp only [Rv] at h; subst h; exact ⟨h0, trivial⟩
  | str s => have h0 := h; simp only [Rv] at h; obtain ⟨_, rfl⟩ := h; exact ⟨h0, trivial⟩
  | ptr id off => have h0 := h; simp only [Rv] at h; obtain ⟨_, L, _, rfl⟩ := h; exact ⟨h0, trivial⟩
  | nilp => have h0 := h; simp only [Rv] at h; subst h; exact ⟨h0, trivial⟩
  | nils => have h0 := h; simp only [Rv] at h; subst h; exact ⟨h0, trivial⟩
  | map id => have h0 := h; simp only [Rv] at h; obtain ⟨_, L, _, rfl⟩ := h; exact ⟨h0, trivial⟩
  | nilm => have h0 := h; simp only [Rv] at h; subst h; exact ⟨h0, trivial⟩
  | nilf => have h0 := h; simp only [Rv] at h; subst h; exact ⟨h0, trivial⟩
  | iface t v => have h0 := h; simp only [Rv] at h; obtain ⟨x, _, rfl⟩ := h; exact ⟨h0, trivial⟩
  | nili => have h0 := h; simp only [Rv] at h; subst h; exact ⟨h0, trivial⟩
  | raw x =>
    have h0 := h
    simp only [Rv] at h
    obtain ⟨rfl, h1⟩ := h
    cases u <;> first | exact ⟨h0, trivial⟩ | simp [Value.oneCell'] at h1

theorem oneAll_iff : ∀ l : List V, oneAll l = true ↔ ∀ v ∈ l, one1 v = true
  | [] => by simp [oneAll]
  | v :: l => by
    simp only [oneAll]
    split
    · rename_i h; simp [h, oneAll_iff l]
    · rename_i h; simp [h]

/-! ### Equal values -/

theorem bytesOf_inj {a b : List Nat} (ha : ∀ x ∈ a, x < 256) (hb : ∀ x ∈ b, x < 256) (h : bytesOf a = bytesOf b) : a = b := by
  have h1 : a.map UInt8.ofNat = b.map UInt8.ofNat := by
    have := congrArg (fun z : ByteArray => z.data.toList) h
    simpa [bytesOf] using this
  have key : ∀ l : List Nat, (∀ x ∈ l, x < 256) → (l.map UInt8.ofNat).map UInt8.toNat = l := by
    intro l hl
    induction l with
    | nil => rfl
    | cons x l ih =>
      have hx := hl x (by simp)
      rw [List.map_cons, List.map_cons, ih (fun y hy => hl y (by simp [hy]))]
      simp [Nat.mod_eq_of_lt hx]
  rw [← key a ha, ← key b hb, h1]

theorem bytesOf_size (s : List Nat) : (bytesOf s).size = s.length := by simp [bytesOf, ByteArray.size]

theorem beq_bytes {a b : List Nat} (ha : ∀ x ∈ a, x < 256) (hb : ∀ x ∈ b, x < 256) : ((bytesOf a).toList == (bytesOf b).toList) = lEq a b := by
  rw [Bool.eq_iff_iff, lEq_iff, beq_iff_eq, ByteArray.toList_eq, ByteArray.toList_eq]
  exact ⟨fun h => bytesOf_inj ha hb (ByteArray.ext (Array.toList_inj.mp h)), fun h => by rw [h]⟩

theorem run_equalIn_ptr {P : Program} (w : World) (d : Nat) (t e : TypeId) (h : P.underlying t = some (.pointer e)) (a : Addr) : (Op.equalIn (d + 1) t (.pointer (some a)) (.pointer none)).run P w = .ok false w := by
  simp [Op.equalIn, run_underlying h]
theorem run_equalIn_ptr0 {P : Program} (w : World) (d : Nat) (t e : TypeId) (h : P.underlying t = some (.pointer e)) : (Op.equalIn (d + 1) t (.pointer none) (.pointer none)).run P w = .ok true w := by
  simp [Op.equalIn, run_underlying h]
theorem run_equalIn_sl {P : Program} (w : World) (d : Nat) (t e : TypeId) (h : P.underlying t = some (.slice e)) (a : Addr) (n c n' c' : Nat) : (Op.equalIn (d + 1) t (.slice (some a) n c) (.slice none n' c')).run P w = .ok false w := by
  simp [Op.equalIn, run_underlying h]
theorem run_equalIn_sl0 {P : Program} (w : World) (d : Nat) (t e : TypeId) (h : P.underlying t = some (.slice e)) (n c n' c' : Nat) : (Op.equalIn (d + 1) t (.slice none n c) (.slice none n' c')).run P w = .ok true w := by
  simp [Op.equalIn, run_underlying h]

theorem fdiv_pow (a : Int) (m : Nat) : a.fdiv (2 ^ m) = match a with
    | .ofNat a => Int.ofNat (Nat.div a (Nat.pow 2 m))
    | .negSucc a => Int.negSucc (Nat.div a (Nat.pow 2 m)) := by
  have h0 : (0 : Int) ≤ 2 ^ m := Int.pow_nonneg (by omega)
  have hp : (2 : Int) ^ m = ((2 ^ m : Nat) : Int) := by simp
  rw [Int.fdiv_eq_ediv_of_nonneg _ h0]
  cases a with
  | ofNat a => rw [hp]; rfl
  | negSucc a =>
    rw [hp]
    have : (2 ^ m : Nat) = Nat.succ (2 ^ m - 1) := by have := Nat.two_pow_pos m; omega
    rw [this]
    show Int.negSucc (a / (2 ^ m - 1).succ) = Int.negSucc (a / 2 ^ m)
    rw [← this]

section
variable {P : Program} {E : Env} (hE : EnvOk E P) {ρ : Nm} {n : Nat}
include hE

theorem vEq_ok {t : Nat} {x y : V} {u u' : Value} {b : Bool} (h : vEq E t x y = some b) (hx : Rv ρ n x u) (hy : Rv ρ n y u') {a a' : Operand} :
    ∀ w, (do eqGuard .eql t a a' u u'; binOp .eql t u u' : Sem Value).run P w = .ok (.bool b) w ∧ (do eqGuard .neq t a a' u u'; binOp .neq t u u' : Sem Value).run P w = .ok (.bool !b) w := by
  intro w
  have viaEqual : ∀ {u u' : Value}, (∀ k a, u ≠ .int k a) → (∀ k a, u ≠ .float k a) → (∀ k a b, u ≠ .complex k a b) → (∀ s, u ≠ .string s) → (u ≠ .nilIface) → (∀ x, u ≠ .agg x) →
      (Op.equalIn 10000 t u u').run P w = .ok b w →
      (do eqGuard .eql t a a' u u'; binOp .eql t u u' : Sem Value).run P w = .ok (.bool b) w ∧ (do eqGuard .neq t a a' u u'; binOp .neq t u u' : Sem Value).run P w = .ok (.bool !b) w := by
    intro u u' h1 h2 h3 h4 h5 h6 hq
    have hg : ∀ op, (eqGuard op t a a' u u').run P w = .ok () w := by
      intro op
      cases u <;> simp_all [eqGuard] <;> split <;> rfl
    have hb1 : binOp .eql t u u' = (do pure (.bool (← Op.equal t u u'))) := by
      cases u <;> simp_all [binOp]
    have hb2 : binOp .neq t u u' = (do pure (.bool (!(← Op.equal t u u')))) := by
      cases u <;> simp_all [binOp]
    have he : (Op.equal t u u').run P w = .ok b w := hq
    constructor
    · rw [Sem.run_bind, hg, Result.andThen_ok, hb1, Sem.run_bind, he, Result.andThen_ok, Sem.run_pure]
    · rw [Sem.run_bind, hg, Result.andThen_ok, hb2, Sem.run_bind, he, Result.andThen_ok, Sem.run_pure]
  unfold vEq at h
  split at h
  · simp only [Rv] at hx hy
    subst hx hy
    simp only [eq1] at h
    split at h
    · rename_i hk
      have := kindEq_ok hk
      subst this
      simp only [Option.some.injEq, ieq_eq] at h
      subst h
      constructor <;> simp [eqGuard, binOp, Op.intCmp, bne]
    · cases h
  · simp only [Rv] at hx hy
    obtain ⟨h1, rfl⟩ := hx
    obtain ⟨h2, rfl⟩ := hy
    simp only [Option.some.injEq] at h
    subst h
    constructor <;> simp [eqGuard, binOp, Op.stringOp, beq_bytes h1 h2]
  · rename_i p q
    simp only [Rv] at hx hy
    subst hx hy
    split at h
    · rename_i hk
      obtain ⟨d, hd, hkd⟩ := und_of hE hk (by simp)
      simp only [KdOk] at hkd
      subst hkd
      refine viaEqual (by simp) (by simp) (by simp) (by simp) (by simp) (by simp) ?_
      refine (run_equalIn_bool' (w := w) 9999 _ _ _ hd).trans ?_
      cases p <;> cases q <;> simp_all [eq1]
    · cases h
  · simp only [Rv] at hx hy
    obtain ⟨_, L, _, rfl⟩ := hx
    subst hy
    split at h
    · rename_i e hk
      obtain ⟨d, hd, hkd⟩ := und_of hE hk (by simp)
      simp only [KdOk] at hkd
      subst hkd
      simp only [Option.some.injEq] at h
      subst h
      exact viaEqual (by simp) (by simp) (by simp) (by simp) (by simp) (by simp) (run_equalIn_ptr w 9999 _ _ hd _)
    · cases h
  · simp only [Rv] at hx hy
    subst hx hy
    split at h
    · rename_i e hk
      obtain ⟨d, hd, hkd⟩ := und_of hE hk (by simp)
      simp only [KdOk] at hkd
      subst hkd
      simp only [Option.some.injEq] at h
      subst h
      exact viaEqual (by simp) (by simp) (by simp) (by simp) (by simp) (by simp) (run_equalIn_ptr0 w 9999 _ _ hd)
    · cases h
  · simp only [Rv] at hx hy
    subst hx hy
    split at h
    · rename_i e hk
      obtain ⟨d, hd, hkd⟩ := und_of hE hk (by simp)
      simp only [KdOk] at hkd
      subst hkd
      simp only [Option.some.injEq] at h
      subst h
      exact viaEqual (by simp) (by simp) (by simp) (by simp) (by simp) (by simp) (run_equalIn_sl0 w 9999 _ _ hd _ _ _ _)
    · cases h
  · rename_i id es off ln c
    have hs : ∃ a ln c, u = .slice (some a) ln c := by
      cases c <;> (simp only [Rv] at hx)
      · obtain ⟨_, _, L, c, o, _, rfl, _⟩ := hx; exact ⟨_, _, _, rfl⟩
      · obtain ⟨_, _, _, L, _, rfl⟩ := hx; exact ⟨_, _, _, rfl⟩
    obtain ⟨ad, ln', c', rfl⟩ := hs
    simp only [Rv] at hy
    subst hy
    split at h
    · rename_i e hk
      obtain ⟨d, hd, hkd⟩ := und_of hE hk (by simp)
      simp only [KdOk] at hkd
      subst hkd
      simp only [Option.some.injEq] at h
      subst h
      exact viaEqual (by simp) (by simp) (by simp) (by simp) (by simp) (by simp) (run_equalIn_sl w 9999 _ _ hd _ _ _ _ _)
    · cases h
  · simp only [Rv] at hx hy
    obtain ⟨xs, hxs, rfl⟩ := hx
    obtain ⟨ys, hys, rfl⟩ := hy
    split at h
    · rename_i ty hty
      split at h
      · rename_i he
        obtain ⟨h1, h2⟩ := (hE.T t ty hty).eqp he
        have h3 := h2 ρ n _ _ _ _ b w hxs hys h
        constructor
        · rw [Sem.run_bind, run_eqGuard_agg (w := w) .eql t a a' _ _ h1, Result.andThen_ok, run_eql_struct (w := w), h3, Result.andThen_ok]
        · rw [Sem.run_bind, run_eqGuard_agg (w := w) .neq t a a' _ _ h1, Result.andThen_ok, run_neq_struct (w := w), h3, Result.andThen_ok]
      · cases h
    · cases h
  · cases h

theorem bin_ok {o : Oper} {ρe : Operand → Value} {op : BinOp} {t ty : Nat} {x y : Operand} (ho : o.op = .binOp op t x y ty) {a b : V} (hx : Rv ρ n a (ρe x)) (hy : Rv ρ n b (ρe y))
    {k : V → R} {r : Ex × St} (h : bin E op t a b k = some r) : ∃ v u, k v = some r ∧ Rv ρ n v u ∧ ∀ w, (execOp ρe o).run P w = .ok (.value u) w := by
  have key : ∀ v u, k v = some r → Rv ρ n v u → (∀ w, (do eqGuard op t x y (ρe x) (ρe y); binOp op t (ρe x) (ρe y) : Sem Value).run P w = .ok u w) → ∃ v u, k v = some r ∧ Rv ρ n v u ∧ ∀ w, (execOp ρe o).run P w = .ok (.value u) w := by
    intro v u h1 h2 h3
    refine ⟨v, u, h1, h2, fun w => ?_⟩
    have := h3 w
    simp only [execOp, ho, Sem.run_bind] at this ⊢
    rw [this]; rfl
  unfold bin at h
  split at h
  · split at h
    · rename_i c hc
      rw [fB_eq] at h
      exact key _ (.bool c) h rfl fun w => (vEq_ok hE hc hx hy w).1
    · cases h
  · split at h
    · rename_i c hc
      rw [fB_eq] at h
      cases c
      · exact key _ (.bool true) h rfl fun w => (vEq_ok hE hc hx hy w).2
      · exact key _ (.bool false) h rfl fun w => (vEq_ok hE hc hx hy w).2
    · cases h
  · rename_i hne1 hne2
    have hg : ∀ u u' w, (eqGuard op t x y u u').run P w = .ok () w := by
      intro u u' w
      cases op <;> simp_all [eqGuard]
    have key : ∀ v u, k v = some r → Rv ρ n v u → (∀ w, (binOp op t (ρe x) (ρe y)).run P w = .ok u w) → ∃ v u, k v = some r ∧ Rv ρ n v u ∧ ∀ w, (execOp ρe o).run P w = .ok (.value u) w := by
      intro v u h1 h2 h3
      refine key v u h1 h2 fun w => ?_
      rw [Sem.run_bind, hg, Result.andThen_ok, h3 w]
    split at h
    · rename_i kd a' kd' b'
      simp only [Rv] at hx hy
      rw [hx, hy] at key
      have keyB : ∀ m, k (.bool m) = some r → (∀ w, (binOp op t (.int kd a') (.int kd' b')).run P w = .ok (.bool m) w) → ∃ v u, k v = some r ∧ Rv ρ n v u ∧ ∀ w, (execOp ρe o).run P w = .ok (.value u) w :=
        fun m h1 h2 => key _ _ h1 (by simp only [Rv]) h2
      have key : ∀ m, k (.int kd m) = some r → (∀ w, (binOp op t (.int kd a') (.int kd' b')).run P w = .ok (.int kd m) w) → ∃ v u, k v = some r ∧ Rv ρ n v u ∧ ∀ w, (execOp ρe o).run P w = .ok (.value u) w :=
        fun m h1 h2 => key _ _ h1 (by simp only [Rv]) h2
      split at h
      · split at h
        · rename_i hb
          rw [wr_eq] at h
          rw [ile_eq] at hb
          have hb : 0 ≤ b' := by simpa using hb
          exact key _ h fun w => by simp [binOp, Op.shift, Int.not_lt.2 hb]
        · cases h
      · split at h
        · rename_i hb
          rw [fI_eq] at h
          rw [ile_eq] at hb
          have hb : 0 ≤ b' := by simpa using hb
          refine key _ h fun w => ?_
          simp only [binOp, Op.shift, Int.not_lt.2 hb, if_false, Sem.run_pure]
          congr 2
          exact fdiv_pow a' _
        · cases h
      · rename_i hn1 hn2
        split at h
        · cases h
        · rename_i hk
          have hk := kindEq_ok hk
          subst hk
          split at h
          · rw [wr_eq] at h
            exact key _ h fun w => by simp [binOp, Op.intArith]
          · rw [wr_eq] at h
            exact key _ h fun w => by simp [binOp, Op.intArith]; rfl
          · rw [wr_eq] at h
            exact key _ h fun w => by simp [binOp, Op.intArith]
          · split at h
            · cases h
            · rename_i hz
              rw [wr_eq] at h
              have hz : b' ≠ 0 := by rw [iz_eq] at hz; simpa using hz
              exact key _ h fun w => by simp [binOp, Op.intDiv, hz]
          · split at h
            · cases h
            · rename_i hz
              rw [fI_eq] at h
              have hz : b' ≠ 0 := by rw [iz_eq] at hz; simpa using hz
              exact key _ h fun w => by simp [binOp, Op.intDiv, hz]
          · rw [fB_eq, ile_eq] at h
            refine keyB (decide (a' < b')) ?_ fun w => by simp [binOp, Op.intCmp]
            rw [← h]
            by_cases hc : a' < b'
            · simp [hc, Int.not_le.2 hc]
            · simp [hc, Int.not_lt.1 hc]
          · rw [fB_eq, ile_eq] at h
            exact keyB (decide (b' ≤ a')) h fun w => by simp [binOp, Op.intCmp]
          · rw [fB_eq, ile_eq] at h
            refine keyB (decide (b' < a')) ?_ fun w => by simp [binOp, Op.intCmp]
            rw [← h]
            by_cases hc : b' < a'
            · simp [hc, Int.not_le.2 hc]
            · simp [hc, Int.not_lt.1 hc]
          · rw [fB_eq, ile_eq] at h
            exact keyB (decide (a' ≤ b')) h fun w => by simp [binOp, Op.intCmp]
          · rw [fI_eq] at h
            exact key _ h fun w => by simp [binOp, Op.intBits, bitX]
          · rw [fI_eq] at h
            exact key _ h fun w => by simp [binOp, Op.intBits, bitX]
          · rw [fI_eq] at h
            exact key _ h fun w => by simp [binOp, Op.intBits, bitX]
          · rw [fI_eq] at h
            exact key _ h fun w => by simp [binOp, Op.intBits, bitX]
          · cases h
    · cases h

omit hE in
theorem un_ok {o : Oper} {ρe : Operand → Value} {op : UnOp} {t : Nat} {x : Operand} (ho : o.op = .unOp op t x) {a : V} (hx : Rv ρ n a (ρe x))
    {k : V → R} {r : Ex × St} (h : un op a k = some r) : ∃ v u, k v = some r ∧ Rv ρ n v u ∧ ∀ w, (execOp ρe o).run P w = .ok (.value u) w := by
  unfold un at h
  split at h
  · rename_i kd m
    rw [wr_eq] at h
    simp only [Rv] at hx
    refine ⟨_, .int kd (kd.wrap (Int.neg m)), h, by simp only [Rv], fun w => ?_⟩
    simp [execOp, ho, hx, Op.unary, Op.intArith]
    rfl
  · simp only [Rv] at hx
    split at h
    · exact ⟨_, .bool false, h, by simp only [Rv], fun w => by simp [execOp, ho, hx, Op.unary]⟩
    · exact ⟨_, .bool true, h, by simp only [Rv], fun w => by simp [execOp, ho, hx, Op.unary]⟩
  · cases h
end

/-! ### Parts -/

theorem over_len : ∀ (l : List V) (n : Nat) (vs : List V), (over l n vs).length = l.length
  | l, n, [] => by cases l <;> cases n <;> simp [over]
  | [], _, _ :: _ => by simp [over]
  | _ :: l, 0, v :: vs => by simp [over, over_len l 0 vs]
  | _ :: l, n + 1, v :: vs => by simp [over, over_len l n (v :: vs)]

theorem over_mem {p : V → Prop} : ∀ (l : List V) (n : Nat) (vs : List V), (∀ x ∈ l, p x) → (∀ x ∈ vs, p x) → ∀ x ∈ over l n vs, p x
  | l, n, [], h, _ => by cases l <;> cases n <;> (simp only [over]; exact h)
  | [], _, _ :: _, _, _ => by simp [over]
  | y :: l, 0, v :: vs, h, hv => by
    simp only [over]
    intro x hx
    rcases List.mem_cons.1 hx with rfl | hx
    · exact hv _ (by simp)
    · exact over_mem l 0 vs (fun x hx => h x (by simp [hx])) (fun x hx => hv x (by simp [hx])) x hx
  | y :: l, n + 1, v :: vs, h, hv => by
    simp only [over]
    intro x hx
    rcases List.mem_cons.1 hx with rfl | hx
    · exact h _ (by simp)
    · exact over_mem l n (v :: vs) (fun x hx => h x (by simp [hx])) hv x hx

/-- the same of values -/
def overV : List Value → Nat → List Value → List Value
  | l, _, [] => l
  | [], _, _ => []
  | _ :: r, 0, v :: vs => v :: overV r 0 vs
  | x :: r, n + 1, v :: vs => x :: overV r n (v :: vs)

theorem over_rel {ρ : Nm} {m : Nat} : ∀ (l : List V) (n : Nat) (vs : List V) (x : List Value) (xs : List Value), RvL ρ m l x → RvL ρ m vs xs → RvL ρ m (over l n vs) (overV x n xs)
  | l, n, [], x, [], h, _ => by cases l <;> cases n <;> cases x <;> first | exact h | (simp [over, overV]; done) | (simp only [over, overV]; exact h)
  | [], _, _ :: _, [], _ :: _, _, _ => by simp [over, overV, RvL]
  | _ :: l, 0, v :: vs, _ :: x, u :: us, h, hv => by
    simp only [over, overV, RvL] at *
    exact ⟨hv.1, over_rel l 0 vs x us h.2 hv.2⟩
  | _ :: l, n + 1, v :: vs, _ :: x, u :: us, h, hv => by
    simp only [over, overV, RvL] at *
    exact ⟨h.1, over_rel l n (v :: vs) x (u :: us) h.2 (by simp only [RvL]; exact hv)⟩
  | _, _, [], _, _ :: _, _, h => by simp [RvL] at h
  | _, _, _ :: _, _, [], _, h => by simp [RvL] at h
  | [], _, _ :: _, _ :: _, _ :: _, h, _ => by simp [RvL] at h
  | _ :: _, _, _ :: _, [], _ :: _, h, _ => by simp [RvL] at h

theorem overV_set : ∀ (l : List Value) (n : Nat) (v : Value) (vs : List Value), n + (vs.length + 1) ≤ l.length → overV l n (v :: vs) = overV (l.set n v) (n + 1) vs
  | [], n, v, vs, h => by simp at h
  | x :: l, 0, v, [], h => by simp [overV]
  | x :: l, 0, v, u :: vs, h => by
    simp only [overV, List.set_cons_zero]
  | x :: l, n + 1, v, [], h => by
    have := overV_set l n v [] (by simp at h ⊢; omega)
    simp only [overV, List.set_cons_succ] at *
    rw [this]
  | x :: l, n + 1, v, u :: vs, h => by
    have := overV_set l n v (u :: vs) (by simp at h ⊢; omega)
    simp only [overV, List.set_cons_succ] at *
    rw [this]

theorem foldl_over (off : Nat) : ∀ (vs : List Value) (k : Nat) (cs : Array Value), off + k + vs.length ≤ cs.size →
    (List.foldl (fun (cs : Array Value) (p : Value × Nat) => cs.setIfInBounds (off + p.2) p.1) cs (vs.zipIdx k)) = (overV cs.toList (off + k) vs).toArray
  | [], k, cs, _ => by simp [overV]
  | v :: vs, k, cs, h => by
    rw [List.zipIdx_cons, List.foldl_cons, foldl_over off vs (k + 1) _ (by simp at h ⊢; omega), overV_set _ _ _ _ (by simp at h ⊢; omega)]
    simp [Nat.add_assoc]

theorem fill_foldl (cells : Array Value) (off : Nat) (c : Array Value) (h : off + c.size ≤ cells.size) :
    c.zipIdx.foldl (fun cs (p : Value × Nat) => cs.setIfInBounds (off + p.2) p.1) cells = (overV cells.toList off c.toList).toArray := by
  have := foldl_over off c.toList 0 cells (by simpa using h)
  rw [Nat.add_zero] at this
  rw [← this, ← Array.foldl_toList]
  simp [Array.toList_zipIdx]

theorem mapM_get {α β : Type} {g : α → Option β} : ∀ {l : List α} {r : List β}, l.mapM g = some r → ∀ (i : Nat) (x : α), l[i]? = some x → ∃ y, g x = some y ∧ r[i]? = some y
  | [], r, h, i, x, hx => by simp at hx
  | a :: l, r, h, i, x, hx => by
    rw [List.mapM_cons] at h
    cases hg : g a with
    | none => rw [hg] at h; cases h
    | some b =>
      cases hl : l.mapM g with
      | none => rw [hg, hl] at h; cases h
      | some bs =>
        rw [hg, hl] at h
        simp only [Option.bind_eq_bind, Option.bind_some, Option.pure_def, Option.some.injEq] at h
        subst h
        cases i with
        | zero => simp only [List.getElem?_cons_zero, Option.some.injEq] at hx ⊢; subst hx; exact ⟨b, hg, rfl⟩
        | succ i => simpa using mapM_get hl i x (by simpa using hx)

theorem len_of_flat {ρ : Nm} {n : Nat} {v : V} {u : Value} (h : RvL ρ n (flat v) u.cells.toList) : u.cells.size = (flat v).length := by
  have := h.length; simpa using this

section
variable {P : Program} {E : Env} (hE : EnvOk E P) {ρ : Nm} {n : Nat} {ev : Operand → Option V} {ρe : Operand → Value}
include hE

omit hE in
theorem fillS_ok {fs : List (Nat × Nat)} {place : Nat → Option (Nat × Nat)} (hplace : ∀ (i o t : Nat) (ty : Ty), fs[i]? = some (o, t) → E.T t = some ty → place i = some (o, ty.size)) :
    ∀ (ps : List (Nat × Operand)) (l : List V) (x : List Value) {k : List V → R} {r : Ex × St}, (∀ p ∈ ps, ∀ v, ev p.2 = some v → Rv ρ n v (ρe p.2)) → RvL ρ n l x → (∀ v ∈ l, one1 v = true) →
    fillS E fs ev ps l k = some r → ∃ l' x', k l' = some r ∧ RvL ρ n l' x' ∧ (∀ v ∈ l', one1 v = true) ∧ l'.length = l.length ∧ Instr.fill place x.toArray (ps.map fun p => (p.1, ρe p.2)) = some x'.toArray
  | [], l, x, k, r, _, hl, ho, h => ⟨l, x, h, hl, ho, rfl, rfl⟩
  | (i, y) :: ps, l, x, k, r, hev, hl, ho, h => by
    simp only [fillS] at h
    split at h
    · rename_i o ft v hi hv
      rw [nth_eq] at hi
      split at h
      · rename_i ty hty
        split at h
        · rename_i hc
          simp only [Bool.and_eq_true, Nat.beq_eq, Nat.ble_eq, len_eq] at hc
          obtain ⟨⟨h1, h2⟩, h3⟩ := hc
          have h3 := (oneAll_iff _).1 h3
          have hr := flat_cells (hev (i, y) (by simp) v hv) h3
          have hsz := len_of_flat hr
          have hxl := hl.length
          obtain ⟨l', x', g1, g2, g3, g4, g5⟩ := fillS_ok hplace ps (over l o (flat v)) (overV x o (ρe y).cells.toList) (fun p hp => hev p (by simp [hp])) (over_rel _ _ _ _ _ hl hr) (over_mem _ _ _ ho h3) h
          refine ⟨l', x', g1, g2, g3, by rw [g4, over_len], ?_⟩
          rw [← g5]
          have hp := hplace i o ft ty hi hty
          have h2 : o + (flat v).length ≤ l.length := h2
          simp only [List.map_cons, Instr.fill, hp, hsz, h1]
          rw [if_neg (by simp [hxl, ← h1]; omega), fill_foldl _ _ _ (by simp [hsz, hxl]; omega)]
        · cases h
      · cases h
    · cases h

omit hE in
theorem fillA_ok {es : Nat} : ∀ (ps : List (Nat × Operand)) (l : List V) (x : List Value) {k : List V → R} {r : Ex × St}, (∀ p ∈ ps, ∀ v, ev p.2 = some v → Rv ρ n v (ρe p.2)) → RvL ρ n l x → (∀ v ∈ l, one1 v = true) →
    fillA es ev ps l k = some r → ∃ l' x', k l' = some r ∧ RvL ρ n l' x' ∧ (∀ v ∈ l', one1 v = true) ∧ l'.length = l.length ∧
      Instr.fill (fun i => some (i * es, es)) x.toArray (ps.map fun p => (p.1, ρe p.2)) = some x'.toArray
  | [], l, x, k, r, _, hl, ho, h => ⟨l, x, h, hl, ho, rfl, rfl⟩
  | (i, y) :: ps, l, x, k, r, hev, hl, ho, h => by
    simp only [fillA] at h
    split at h
    · rename_i v hv
      split at h
      · rename_i hc
        simp only [Bool.and_eq_true, Nat.beq_eq, Nat.ble_eq, len_eq] at hc
        obtain ⟨⟨h1, h2⟩, h3⟩ := hc
        have h3 := (oneAll_iff _).1 h3
        have hr := flat_cells (hev (i, y) (by simp) v hv) h3
        have hsz := len_of_flat hr
        have hxl := hl.length
        have h2 : i * es + (flat v).length ≤ l.length := h2
        obtain ⟨l', x', g1, g2, g3, g4, g5⟩ := fillA_ok ps (over l (i * es) (flat v)) (overV x (i * es) (ρe y).cells.toList) (fun p hp => hev p (by simp [hp])) (over_rel _ _ _ _ _ hl hr) (over_mem _ _ _ ho h3) h
        refine ⟨l', x', g1, g2, g3, by rw [g4, over_len], ?_⟩
        rw [← g5]
        simp only [List.map_cons, Instr.fill, hsz, h1]
        have h7 : i * es + es ≤ x.length := by rw [hxl, ← h1]; rw [← h1] at h2; exact h2
        rw [if_neg (by simp [h7]), fill_foldl _ _ _ (by simp [hsz, h1]; exact h7)]
      · cases h
    · cases h

theorem build_ok {o : Oper} {t : Nat} {ps : Array (Nat × Operand)} (ho : o.op = .build t ps) (hev : ∀ p ∈ ps.toList, ∀ v, ev p.2 = some v → Rv ρ n v (ρe p.2))
    {k : V → R} {r : Ex × St} (h : opP E ev (.build t ps) k = some r) : ∃ v u, k v = some r ∧ Rv ρ n v u ∧ ∀ w, (execOp ρe o).run P w = .ok (.value u) w := by
  simp only [opP] at h
  split at h
  · rename_i ty hty
    have hok := hE.T _ _ hty
    obtain ⟨i, z, hi, hs, hb, hz, hzr, _⟩ := hok.info
    obtain ⟨d, hd, hag, hkd⟩ := hok.und
    have hzr := hzr ρ n
    split at h
    · rename_i fs hfs
      rw [hfs] at hkd
      simp only [KdOk] at hkd
      obtain ⟨fields, rfl, hmap, hinf⟩ := hkd
      obtain ⟨places, hpl⟩ : ∃ places : List (Nat × Nat), fields.toList.mapM (fun f => (P.info? f.type).map fun i => (f.offset, i.size)) = some places := by
        have : ∀ l : List Field, (∀ f ∈ l, ∃ i, P.info? f.type = some i) → ∃ places : List (Nat × Nat), l.mapM (fun f => (P.info? f.type).map fun i => (f.offset, i.size)) = some places := by
          intro l
          induction l with
          | nil => exact fun _ => ⟨[], rfl⟩
          | cons f l ih =>
            intro hl
            obtain ⟨i, hi⟩ := hl f (by simp)
            obtain ⟨ps, hps⟩ := ih (fun f hf => hl f (by simp [hf]))
            exact ⟨(f.offset, i.size) :: ps, by simp [hi, hps]⟩
        exact this _ (fun f hf => hinf f (by simpa using hf))
      have hplace : ∀ (i o t : Nat) (ty : Ty), fs[i]? = some (o, t) → E.T t = some ty → places[i]? = some (o, ty.size) := by
        intro i o t ty hio hty
        rw [← hmap, List.getElem?_map] at hio
        cases hf : fields.toList[i]? with
        | none => rw [hf] at hio; cases hio
        | some f =>
          rw [hf] at hio
          simp only [Option.map_some, Option.some.injEq, Prod.mk.injEq] at hio
          obtain ⟨p, hp1, hp2⟩ := mapM_get hpl i f hf
          obtain ⟨j, _, hj, hjs, _⟩ := (hE.T _ _ hty).info
          rw [hio.2, hj] at hp1
          simp only [Option.map_some, Option.some.injEq] at hp1
          rw [hp2, ← hp1, hio.1, hjs]
      obtain ⟨l', x', g1, g2, g3, g4, g5⟩ := fillS_ok (E := E) (place := (places[·]?)) hplace ps.toList ty.zero z.cells.toList hev hzr hok.zone h
      rw [fL_eq] at g1
      refine ⟨_, .agg x'.toArray, g1, by simp only [Rv]; exact ⟨x', g2, rfl⟩, fun w => ?_⟩
      have e : z.cells.toList.toArray = z.cells := by simp
      rw [e] at g5
      simp [execOp, ho, Instr.build, run_underlying hd, typeInfo, zeroValue, hi, hz, Array.mapM_eq_mapM_toList, run_places w _ _ hpl]
      rw [g5]
      simp
    · rename_i m e hfs
      rw [hfs] at hkd
      simp only [KdOk] at hkd
      subst hkd
      split at h
      · rename_i ety hety
        obtain ⟨j, _, hj, hjs, _⟩ := (hE.T _ _ hety).info
        obtain ⟨l', x', g1, g2, g3, g4, g5⟩ := fillA_ok (ρ := ρ) (n := n) (ρe := ρe) ps.toList ty.zero z.cells.toList hev hzr hok.zone h
        rw [fL_eq] at g1
        refine ⟨_, .agg x'.toArray, g1, by simp only [Rv]; exact ⟨x', g2, rfl⟩, fun w => ?_⟩
        have e' : z.cells.toList.toArray = z.cells := by simp
        rw [e'] at g5
        simp [execOp, ho, Instr.build, run_underlying hd, Go.sizeOf, typeInfo, zeroValue, hi, hz, hj, hjs]
        rw [g5]
        simp
      · cases h
    · cases h
  · cases h
end
end CX

/-
  CX: the table of types, checked against the program.
-/
namespace CX
open Go

noncomputable section
def zOk : V → Value → Bool
  | .int k n, .int k' n' => kindEq k k' && ieq n n'
  | .bool false, .bool false => true
  | .str [], .string s => Nat.beq s.size 0
  | .nils, .slice none 0 0 => true
  | .nilp, .pointer none => true
  | .nilf, .nilFunc => true
  | .nili, .nilIface => true
  | .nilm, .map none => true
  | _, _ => false

def zOks : List V → List Value → Bool
  | [], [] => true
  | k :: ks, v :: vs => zOk k v && zOks ks vs
  | _, _ => false

def sameZ : V → V → Bool
  | .int k n, .int k' n' => kindEq k k' && ieq n n'
  | .bool false, .bool false => true
  | .str [], .str [] => true
  | .nils, .nils => true
  | .nilp, .nilp => true
  | .nilf, .nilf => true
  | .nili, .nili => true
  | .nilm, .nilm => true
  | _, _ => false

def ztOk (t : T V) : Nat → List V → Bool
  | _, [] => true
  | i, v :: l => (match t.get i with | some u => sameZ u v | none => false) && ztOk t (Nat.succ i) l

def fsEq : List Field → List (Nat × Nat) → Bool
  | [], [] => true
  | f :: r, (o, t) :: s => Nat.beq f.offset o && Nat.beq f.type t && fsEq r s
  | _, _ => false

def kdChk (P : Program) (kd : TK) (d : TypeDesc) : Bool :=
  match kd with
  | .other => match d with
    | .interface _ => false
    | _ => true
  | .int k => match d with
    | .int k' => kindEq k k'
    | _ => false
  | .bool => match d with
    | .bool => true
    | _ => false
  | .str => match d with
    | .string => true
    | _ => false
  | .struct fs => match d with
    | .struct fields => fsEq fields.toList fs && fields.toList.all fun f => (P.info? f.type).isSome
    | _ => false
  | .arr n e => match d with
    | .array n' e' => Nat.beq n n' && Nat.beq e e'
    | _ => false
  | .slice e => match d with
    | .slice e' => Nat.beq e e'
    | _ => false
  | .map k e => match d with
    | .map k' e' => Nat.beq k k' && Nat.beq e e'
    | _ => false
  | .ptr e => match d with
    | .pointer e' => Nat.beq e e'
    | _ => false
  | .iface => true

/-- A cell's type is of one cell, of the kind of a value. -/
def sKind (P : Program) (z : V) (t : Nat) : Bool :=
  match z with
  | .int _ _ => match P.underlying t with
    | some (.int _) => true
    | _ => false
  | .bool _ => match P.underlying t with
    | some .bool => true
    | _ => false
  | .str _ => match P.underlying t with
    | some .string => true
    | _ => false
  | _ => false

def chkF (P : Program) : List Field → List V → Nat → Bool
  | [], [], _ => true
  | f :: fs, z :: zs, i => (f.name != "_") && Nat.beq f.offset i && sKind P z f.type && chkF P fs zs (Nat.succ i)
  | _, _, _ => false

def eqChk (P : Program) (t : Nat) (ty : Ty) (d : TypeDesc) : Bool :=
  match ty.eqp with
  | false => true
  | true => !P.eqGuardType P.depth t && (match d with
    | .struct fields => !P.stoodInHeld t && chkF P fields.toList ty.zero 0
    | .array n e => (P.info? e).isSome && Nat.beq (P.cellsOf e) 1 && Nat.beq (len ty.zero) n && ty.zero.all fun z => sKind P z e
    | _ => false)

def tyChk (P : Program) (t : Nat) (ty : Ty) : Bool :=
  match P.info? t, P.underlying t with
  | some i, some d =>
    Nat.beq i.size ty.size && Nat.beq i.bytes ty.bytes &&
      (match i.zero with
        | some z => zOks ty.zero z.cells.toList && (match z with | .agg _ => ty.agg | _ => !ty.agg)
        | none => false) &&
      Nat.beq (len ty.zero) ty.size && ztOk ty.zt 0 ty.zero && (isAggD d == ty.agg) && kdChk P ty.kd d && eqChk P t ty d
  | _, _ => false

end

theorem zOk_ok {v : V} {u : Value} (h : zOk v u = true) : one1 v = true ∧ ∀ ρ n, Rv ρ n v u := by
  unfold zOk at h
  split at h
  · simp only [Bool.and_eq_true] at h
    have h1 := kindEq_ok h.1
    have h2 := h.2
    rw [ieq_eq, beq_iff_eq] at h2
    subst h1 h2
    exact ⟨rfl, fun ρ n => by simp [Rv]⟩
  · exact ⟨rfl, fun ρ n => by simp [Rv]⟩
  · rename_i s
    have : s.size = 0 := by simpa using h
    have hs : s = ByteArray.empty := ByteArray.ext (Array.eq_empty_of_size_eq_zero this)
    exact ⟨rfl, fun ρ n => by simp only [Rv]; exact ⟨by simp, by rw [hs]; rfl⟩⟩
  all_goals first | (cases h; done) | exact ⟨rfl, fun ρ n => by simp [Rv]⟩

theorem zOks_ok : ∀ (l : List V) (us : List Value), zOks l us = true → (∀ v ∈ l, one1 v = true) ∧ ∀ ρ n, RvL ρ n l us
  | [], [], _ => ⟨by simp, fun _ _ => by simp [RvL]⟩
  | v :: l, u :: us, h => by
    simp only [zOks, Bool.and_eq_true] at h
    obtain ⟨h1, h2⟩ := zOk_ok h.1
    obtain ⟨h3, h4⟩ := zOks_ok l us h.2
    refine ⟨fun x hx => ?_, fun ρ n => by simp only [RvL]; exact ⟨h2 ρ n, h4 ρ n⟩⟩
    rcases List.mem_cons.1 hx with rfl | hx
    · exact h1
    · exact h3 x hx
  | [], _ :: _, h => by simp [zOks] at h
  | _ :: _, [], h => by simp [zOks] at h

theorem sameZ_ok {a b : V} (h : sameZ a b = true) : a = b := by
  unfold sameZ at h
  split at h
  · simp only [Bool.and_eq_true] at h
    have h1 := kindEq_ok h.1
    have h2 := h.2
    rw [ieq_eq, beq_iff_eq] at h2
    subst h1 h2; rfl
  all_goals first | rfl | cases h

theorem ztOk_ok {t : T V} : ∀ (l : List V) (i : Nat), ztOk t i l = true → ∀ j, j < l.length → t.get (i + j) = l[j]?
  | [], _, _, j, hj => by simp at hj
  | v :: l, i, h, j, hj => by
    simp only [ztOk, Bool.and_eq_true] at h
    cases j with
    | zero =>
      have h1 := h.1
      split at h1
      · rename_i u hu
        rw [Nat.add_zero, hu, sameZ_ok h1]; rfl
      · cases h1
    | succ j =>
      have := ztOk_ok l (Nat.succ i) h.2 j (by simpa using hj)
      rw [show i + (j + 1) = Nat.succ i + j by omega, this]; rfl

theorem fsEq_ok : ∀ (l : List Field) (fs : List (Nat × Nat)), fsEq l fs = true → l.map (fun f => (f.offset, f.type)) = fs
  | [], [], _ => rfl
  | f :: r, (o, t) :: s, h => by
    simp only [fsEq, Bool.and_eq_true, Nat.beq_eq] at h
    rw [List.map_cons, fsEq_ok r s h.2, h.1.1, h.1.2]
  | [], _ :: _, h => by simp [fsEq] at h
  | _ :: _, [], h => by simp [fsEq] at h

theorem kdChk_ok {P : Program} {kd : TK} {d : TypeDesc} (h : kdChk P kd d = true) : KdOk P kd d := by
  cases kd with
  | other =>
    intro ms e
    subst e
    simp [kdChk] at h
  | int k =>
    simp only [kdChk] at h
    split at h
    · rw [kindEq_ok h]; rfl
    · cases h
  | bool => simp only [kdChk] at h; split at h; rfl; cases h
  | str => simp only [kdChk] at h; split at h; rfl; cases h
  | struct fs =>
    simp only [kdChk] at h
    split at h
    · rename_i fields
      simp only [Bool.and_eq_true] at h
      refine ⟨fields, rfl, fsEq_ok _ _ h.1, fun f hf => ?_⟩
      have := List.all_eq_true.1 h.2 f (by simpa using hf)
      exact Option.isSome_iff_exists.1 this
    · cases h
  | arr n e =>
    simp only [kdChk] at h
    split at h
    · simp only [Bool.and_eq_true, Nat.beq_eq] at h
      simp only [KdOk, h.1, h.2]
    · cases h
  | slice e =>
    simp only [kdChk] at h
    split at h
    · simp only [Nat.beq_eq] at h
      simp only [KdOk, h]
    · cases h
  | map k e =>
    simp only [kdChk] at h
    split at h
    · simp only [Bool.and_eq_true, Nat.beq_eq] at h
      simp only [KdOk, h.1, h.2]
    · cases h
  | ptr e =>
    simp only [kdChk] at h
    split at h
    · simp only [Nat.beq_eq] at h
      simp only [KdOk, h]
    · cases h
  | iface => trivial

section
variable {P : Program} {ρ : Nm} {n : Nat}

/-- Two cells. -/
theorem cell_eq {z a b : V} {x y : Value} {t : Nat} {r : Bool} {w : World} (hz : sKind P z t = true) (ha : Rv ρ n a x) (hb : Rv ρ n b y)
    (h : eqK z a b = some r) : (Op.equalIn 9999 t x y).run P w = .ok r w ∧ ∀ cs : Array Value, ∀ off, cs[off]? = some x → (Go.part t cs off).run P w = .ok x w := by
  have pt : ∀ d, P.underlying t = some d → isAggD d = false → ∀ cs : Array Value, ∀ off, cs[off]? = some x → (Go.part t cs off).run P w = .ok x w := by
    intro d hd hag cs off hc
    simp only [Go.part, Sem.run_bind, run_isAgg' hd, Result.andThen_ok]
    cases d <;> simp_all [isAggD]
  cases z with
  | int k0 n0 =>
    simp only [eqK] at h
    obtain ⟨k', hu⟩ : ∃ k', P.underlying t = some (.int k') := by
      simp only [sKind] at hz
      split at hz
      · exact ⟨_, by assumption⟩
      · cases hz
    cases a with
    | int k1 a1 =>
      simp only [Rv] at ha
      subst ha
      cases b with
      | int k2 b1 =>
        simp only [Rv] at hb
        subst hb
        simp only [eq1] at h
        split at h
        · rename_i hk
          have := kindEq_ok hk
          subst this
          simp only [Option.some.injEq] at h
          subst h
          exact ⟨by rw [run_equalIn_int w 9998 t k1 k' _ _ hu, ieq_eq], pt _ hu rfl⟩
        · cases h
      | _ => simp [eq1] at h
    | _ => simp at h
  | bool b0 =>
    simp only [eqK] at h
    have hu : P.underlying t = some .bool := by
      simp only [sKind] at hz
      split at hz
      · assumption
      · cases hz
    cases a with
    | bool a1 =>
      simp only [Rv] at ha
      subst ha
      cases b with
      | bool b1 =>
        simp only [Rv] at hb
        subst hb
        refine ⟨?_, pt _ hu rfl⟩
        rw [run_equalIn_bool' w 9998 t _ _ hu]
        cases a1 <;> cases b1 <;> simp_all [eq1]
      | _ => simp [eq1] at h
    | _ => simp at h
  | str s0 =>
    simp only [eqK] at h
    have hu : P.underlying t = some .string := by
      simp only [sKind] at hz
      split at hz
      · assumption
      · cases hz
    cases a with
    | str a1 =>
      simp only [Rv] at ha
      obtain ⟨ha1, rfl⟩ := ha
      cases b with
      | str b1 =>
        simp only [Rv] at hb
        obtain ⟨hb1, rfl⟩ := hb
        simp only [eq1, Option.some.injEq] at h
        subst h
        refine ⟨?_, pt _ hu rfl⟩
        rw [run_equalIn_string w 9998 t _ _ hu, beq_bytes ha1 hb1]
      | _ => simp [eq1] at h
    | _ => simp at h
  | _ => simp [eqK] at h

theorem sKind_und {z : V} {t : Nat} (hz : sKind P z t = true) : ∃ d, P.underlying t = some d ∧ isAggD d = false := by
  cases z <;> simp only [sKind] at hz <;> first | (cases hz; done) | (split at hz <;> first | (cases hz; done) | exact ⟨_, by assumption, rfl⟩)

theorem lists_get {xs : Array Value} {i : Nat} {u : Value} {us : List Value} (h : xs.toList.drop i = u :: us) : xs[i]? = some u ∧ xs.toList.drop (i + 1) = us := by
  have h1 : (xs.toList.drop i)[0]? = some u := by rw [h]; rfl
  rw [List.getElem?_drop] at h1
  refine ⟨by simpa using h1, ?_⟩
  rw [show i + 1 = i + 1 from rfl, ← List.drop_drop, h]; rfl

theorem eqFields_ok {w : World} {xs ys : Array Value} : ∀ (fs : List Field) (zs : List V) (i : Nat) (a b : List V) {r : Bool}, chkF P fs zs i = true → RvL ρ n a (xs.toList.drop i) → RvL ρ n b (ys.toList.drop i) → eqZ zs a b = some r →
    (Op.eqFields 9999 xs ys fs).run P w = .ok r w
  | [], [], i, [], [], r, _, _, _, h => by
    simp only [eqZ, Option.some.injEq] at h
    subst h
    simp [Op.eqFields]
  | f :: fs, z :: zs, i, a :: as0, b :: bs, r, hc, ha, hb, h => by
    simp only [chkF, Bool.and_eq_true, Nat.beq_eq, bne_iff_ne] at hc
    obtain ⟨⟨⟨h1, h2⟩, h3⟩, h4⟩ := hc
    cases hx : xs.toList.drop i with
    | nil => rw [hx] at ha; simp [RvL] at ha
    | cons x xr =>
      cases hy : ys.toList.drop i with
      | nil => rw [hy] at hb; simp [RvL] at hb
      | cons y yr =>
        rw [hx] at ha
        rw [hy] at hb
        simp only [RvL] at ha hb
        obtain ⟨gx, ex⟩ := lists_get hx
        obtain ⟨gy, ey⟩ := lists_get hy
        simp only [eqZ] at h
        have step : ∀ c, eqK z a b = some c → (Op.eqFields 9999 xs ys (f :: fs)).run P w = if c then (Op.eqFields 9999 xs ys fs).run P w else .ok false w := by
          intro c hcc
          obtain ⟨k1, k2⟩ := cell_eq (w := w) h3 ha.1 hb.1 hcc
          have k3 : (Go.part f.type ys f.offset).run P w = .ok y w := by
            obtain ⟨d, hd, hag⟩ := sKind_und h3
            simp only [Go.part, Sem.run_bind, run_isAgg' hd, Result.andThen_ok, h2, gy]
            cases d <;> simp_all [isAggD]
          rw [h2] at k3
          simp only [Op.eqFields, if_pos h1, Sem.run_bind]
          rw [h2, k2 xs i gx, Result.andThen_ok, k3, Result.andThen_ok, k1, Result.andThen_ok]
          cases c <;> simp
        split at h
        · rename_i hcc
          rw [step true hcc, if_pos rfl]
          exact eqFields_ok fs zs (Nat.succ i) as0 bs h4 (by rw [Nat.succ_eq_add_one, ex]; exact ha.2) (by rw [Nat.succ_eq_add_one, ey]; exact hb.2) h
        · rename_i hcc
          simp only [Option.some.injEq] at h
          subst h
          rw [step false hcc]; rfl
        · cases h
  | [], [], _, _ :: _, _, _, _, _, _, h => by simp [eqZ] at h
  | [], [], _, [], _ :: _, _, _, _, _, h => by simp [eqZ] at h
  | [], _ :: _, _, _, _, _, h, _, _, _ => by simp [chkF] at h
  | _ :: _, [], _, _, _, _, h, _, _, _ => by simp [chkF] at h
  | _ :: _, _ :: _, _, [], _, _, _, _, _, h => by simp [eqZ] at h
  | _ :: _, _ :: _, _, _ :: _, [], _, _, _, _, h => by simp [eqZ] at h

theorem eqItems_ok {w : World} {xs ys : Array Value} {e : Nat} : ∀ (m i : Nat) (zs : List V) (a b : List V) {r : Bool}, zs.length = m → (∀ z ∈ zs, sKind P z e = true) → RvL ρ n a (xs.toList.drop i) → RvL ρ n b (ys.toList.drop i) → eqZ zs a b = some r →
    (Op.eqItems 9999 e 1 xs ys (List.range' i m)).run P w = .ok r w
  | 0, i, [], [], [], r, _, _, _, _, h => by
    simp only [eqZ, Option.some.injEq] at h
    subst h
    simp [Op.eqItems]
  | m + 1, i, z :: zs, a :: as0, b :: bs, r, hm, hc, ha, hb, h => by
    have h3 := hc z (by simp)
    cases hx : xs.toList.drop i with
    | nil => rw [hx] at ha; simp [RvL] at ha
    | cons x xr =>
      cases hy : ys.toList.drop i with
      | nil => rw [hy] at hb; simp [RvL] at hb
      | cons y yr =>
        rw [hx] at ha
        rw [hy] at hb
        simp only [RvL] at ha hb
        obtain ⟨gx, ex⟩ := lists_get hx
        obtain ⟨gy, ey⟩ := lists_get hy
        simp only [eqZ] at h
        have step : ∀ c, eqK z a b = some c → (Op.eqItems 9999 e 1 xs ys (List.range' i (m + 1))).run P w = if c then (Op.eqItems 9999 e 1 xs ys (List.range' (i + 1) m)).run P w else .ok false w := by
          intro c hcc
          obtain ⟨k1, k2⟩ := cell_eq (w := w) h3 ha.1 hb.1 hcc
          have k3 : (Go.part e ys i).run P w = .ok y w := by
            obtain ⟨d, hd, hag⟩ := sKind_und h3
            simp only [Go.part, Sem.run_bind, run_isAgg' hd, Result.andThen_ok, gy]
            cases d <;> simp_all [isAggD]
          simp only [List.range'_succ, Op.eqItems, Nat.mul_one, Sem.run_bind]
          rw [k2 xs i gx, Result.andThen_ok, k3, Result.andThen_ok, k1, Result.andThen_ok]
          cases c <;> simp
        split at h
        · rename_i hcc
          rw [step true hcc, if_pos rfl]
          exact eqItems_ok m (i + 1) zs as0 bs (by simpa using hm) (fun z hz => hc z (by simp [hz])) (by rw [ex]; exact ha.2) (by rw [ey]; exact hb.2) h
        · rename_i hcc
          simp only [Option.some.injEq] at h
          subst h
          rw [step false hcc]; rfl
        · cases h
  | 0, _, _ :: _, _, _, _, hm, _, _, _, _ => by simp at hm
  | _ + 1, _, [], _, _, _, hm, _, _, _, _ => by simp at hm
  | 0, _, [], _ :: _, _, _, _, _, _, _, h => by simp [eqZ] at h
  | 0, _, [], [], _ :: _, _, _, _, _, _, h => by simp [eqZ] at h
  | _ + 1, _, _ :: _, [], _, _, _, _, _, _, h => by simp [eqZ] at h
  | _ + 1, _, _ :: _, _ :: _, [], _, _, _, _, _, h => by simp [eqZ] at h
end

theorem tyChk_ok {P : Program} {t : Nat} {ty : Ty} (h : tyChk P t ty = true) : TyOk P t ty := by
  unfold tyChk at h
  split at h
  · rename_i i d hi hd
    simp only [Bool.and_eq_true, Nat.beq_eq] at h
    obtain ⟨⟨⟨⟨⟨⟨⟨h1, h2⟩, h3⟩, h4⟩, h5⟩, h6⟩, h7⟩, h8⟩ := h
    rw [len_eq] at h4
    split at h3
    · rename_i z hz
      simp only [Bool.and_eq_true] at h3
      obtain ⟨hz1, hz2⟩ := zOks_ok _ _ h3.1
      have h3b := h3.2
      replace h6 : isAggD d = ty.agg := eq_of_beq h6
      refine ⟨⟨i, z, hi, h1, h2, hz, hz2, fun ha => ?_, fun ha => ?_⟩, h4, hz1, fun j hj => ?_, ⟨d, hd, h6, kdChk_ok h7⟩, fun he => ?_⟩
      · split at h3b
        · rfl
        · rw [ha] at h3b; cases h3b
      · split at h3b
        · rw [ha] at h3b; cases h3b
        · rename_i hne
          cases z <;> first | rfl | exact (hne _ rfl).elim
      · have := ztOk_ok _ 0 h5 j (by omega)
        simpa using this
      · unfold eqChk at h8
        rw [he] at h8
        simp only [Bool.and_eq_true, Bool.not_eq_true'] at h8
        obtain ⟨g1, g2⟩ := h8
        refine ⟨g1, fun ρ n a b xs ys r w ha hb hr => ?_⟩
        split at g2
        · rename_i fields
          simp only [Bool.and_eq_true, Bool.not_eq_true'] at g2
          have hfo : P.fieldsOf t = fields := by simp [Program.fieldsOf, hd]
          rw [run_equalIn_struct w 9999 t _ _ (by rw [hfo]; exact hd) g2.1, hfo]
          exact eqFields_ok fields.toList ty.zero 0 a b g2.2 (by simpa using ha) (by simpa using hb) hr
        · rename_i m e
          simp only [Bool.and_eq_true, Nat.beq_eq] at g2
          obtain ⟨⟨⟨q1, q2⟩, q3⟩, q4⟩ := g2
          obtain ⟨ie, hie⟩ := Option.isSome_iff_exists.1 q1
          rw [run_equalIn_array w 9999 _ _ hd hie, q2, List.range_eq_range']
          rw [len_eq] at q3
          exact eqItems_ok m 0 ty.zero a b q3 (fun z hz => List.all_eq_true.1 q4 z hz) (by simpa using ha) (by simpa using hb) hr
        · cases g2
    · cases h3
  · cases h

/-- What holds of all entries. -/
def T.All {α : Type} (p : Nat → α → Prop) : T α → (Nat → Nat) → Prop
  | .e, _ => True
  | .n l v r, φ => T.All p l (fun i => φ (2 * i + 1)) ∧ (match v with | some x => p (φ 0) x | none => True) ∧ T.All p r (fun i => φ (2 * i + 2))

theorem T.All.get {α : Type} {p : Nat → α → Prop} : ∀ (t : T α) (φ : Nat → Nat), T.All p t φ → ∀ i x, t.get i = some x → p (φ i) x
  | .e, _, _, i, x, h => by simp [T.get] at h
  | .n l v r, φ, ha, 0, x, h => by
    have h1 := ha.2.1
    have h2 : v = some x := h
    rw [h2] at h1
    exact h1
  | .n l v r, φ, ha, j + 1, x, h => by
    have hj : (T.n l v r).get (j + 1) = if j % 2 = 0 then l.get (j / 2) else r.get (j / 2) := T.get_succ l v r j
    rw [hj] at h
    split at h
    · have := T.All.get l _ ha.1 (j / 2) x h
      rw [show 2 * (j / 2) + 1 = j + 1 by omega] at this
      exact this
    · have := T.All.get r _ ha.2.2 (j / 2) x h
      rw [show 2 * (j / 2) + 2 = j + 1 by omega] at this
      exact this

def T.allB {α : Type} (p : α → Bool) : T α → Bool
  | .e => true
  | .n l v r => T.allB p l && (match v with | some x => p x | none => true) && T.allB p r

theorem T.allB_ok {α : Type} {p : α → Bool} : ∀ (t : T α) (φ : Nat → Nat), T.allB p t = true → T.All (fun _ x => p x = true) t φ
  | .e, _, _ => trivial
  | .n l v r, φ, h => by
    simp only [T.allB, Bool.and_eq_true] at h
    refine ⟨T.allB_ok l _ h.1.1, ?_, T.allB_ok r _ h.2⟩
    cases v with
    | none => trivial
    | some x => exact h.1.2

/-- All types of a table. -/
noncomputable def tabChk (P : Program) (T : Nat → Option Ty) : Nat → Bool
  | 0 => true
  | n + 1 => (match T n with
    | some ty => tyChk P n ty
    | none => true) && tabChk P T n

theorem tabChk_ok {P : Program} {T : Nat → Option Ty} : ∀ n, tabChk P T n = true → ∀ t ty, t < n → T t = some ty → TyOk P t ty
  | 0, _, t, _, h, _ => by omega
  | n + 1, hc, t, ty, ht, h => by
    simp only [tabChk, Bool.and_eq_true] at hc
    by_cases e : t = n
    · subst e
      rw [h] at hc
      exact tyChk_ok hc.1
    · exact tabChk_ok n hc.2 t ty (by omega) h
end CX

/-
  CX: the table of functions is the program's. Printed by wip/tools/mkcx.py.
-/
namespace CX
open Go Go.Proofs

theorem fnT_ok : T.All (fun f fn => Tryz.prog.funcs[f]? = some fn) fnT id := (And.intro (And.intro (And.intro (And.intro (And.intro (And.intro (And.intro (And.intro trivial (And.intro Tryz.func127 trivial)) (And.intro Tryz.func63 trivial)) (And.intro Tryz.func31 (And.intro trivial (And.intro Tryz.func95 trivial)))) (And.intro Tryz.func15 (And.intro (And.intro (And.intro trivial (And.intro Tryz.func143 trivial)) (And.intro Tryz.func79 trivial)) (And.intro Tryz.func47 (And.intro trivial (And.intro Tryz.func111 trivial)))))) (And.intro Tryz.func7 (And.intro (And.intro (And.intro (And.intro trivial (And.intro Tryz.func135 trivial)) (And.intro Tryz.func71 trivial)) (And.intro Tryz.func39 (And.intro trivial (And.intro Tryz.func103 trivial)))) (And.intro Tryz.func23 (And.intro (And.intro (And.intro trivial (And.intro Tryz.func151 trivial)) (And.intro Tryz.func87 trivial)) (And.intro Tryz.func55 (And.intro trivial (And.intro Tryz.func119 trivial)))))))) (And.intro Tryz.func3 (And.intro (And.intro (And.intro (And.intro (And.intro trivial (And.intro Tryz.func131 trivial)) (And.intro Tryz.func67 trivial)) (And.intro Tryz.func35 (And.intro trivial (And.intro Tryz.func99 trivial)))) (And.intro Tryz.func19 (And.intro (And.intro (And.intro trivial (And.intro Tryz.func147 trivial)) (And.intro Tryz.func83 trivial)) (And.intro Tryz.func51 (And.intro trivial (And.intro Tryz.func115 trivial)))))) (And.intro Tryz.func11 (And.intro (And.intro (And.intro (And.intro trivial (And.intro Tryz.func139 trivial)) (And.intro Tryz.func75 trivial)) (And.intro Tryz.func43 (And.intro trivial (And.intro Tryz.func107 trivial)))) (And.intro Tryz.func27 (And.intro (And.intro (And.intro trivial (And.intro Tryz.func155 trivial)) (And.intro Tryz.func91 trivial)) (And.intro Tryz.func59 (And.intro trivial (And.intro Tryz.func123 trivial)))))))))) (And.intro trivial (And.intro (And.intro (And.intro (And.intro (And.intro (And.intro trivial (And.intro Tryz.func129 trivial)) (And.intro Tryz.func65 trivial)) (And.intro Tryz.func33 (And.intro trivial (And.intro Tryz.func97 trivial)))) (And.intro Tryz.func17 (And.intro (And.intro (And.intro trivial (And.intro Tryz.func145 trivial)) (And.intro Tryz.func81 trivial)) (And.intro Tryz.func49 (And.intro trivial (And.intro Tryz.func113 trivial)))))) (And.intro Tryz.func9 (And.intro (And.intro (And.intro (And.intro trivial (And.intro Tryz.func137 trivial)) (And.intro Tryz.func73 trivial)) (And.intro Tryz.func41 (And.intro trivial (And.intro Tryz.func105 trivial)))) (And.intro Tryz.func25 (And.intro (And.intro (And.intro trivial (And.intro Tryz.func153 trivial)) (And.intro Tryz.func89 trivial)) (And.intro Tryz.func57 (And.intro trivial (And.intro Tryz.func121 trivial)))))))) (And.intro Tryz.func5 (And.intro (And.intro (And.intro (And.intro (And.intro trivial (And.intro Tryz.func133 trivial)) (And.intro Tryz.func69 trivial)) (And.intro Tryz.func37 (And.intro trivial (And.intro Tryz.func101 trivial)))) (And.intro Tryz.func21 (And.intro (And.intro (And.intro trivial (And.intro Tryz.func149 trivial)) (And.intro Tryz.func85 trivial)) (And.intro Tryz.func53 (And.intro trivial (And.intro Tryz.func117 trivial)))))) (And.intro Tryz.func13 (And.intro (And.intro (And.intro (And.intro trivial (And.intro Tryz.func141 trivial)) (And.intro Tryz.func77 trivial)) (And.intro Tryz.func45 (And.intro trivial (And.intro Tryz.func109 trivial)))) (And.intro Tryz.func29 (And.intro (And.intro trivial (And.intro Tryz.func93 trivial)) (And.intro Tryz.func61 (And.intro trivial (And.intro Tryz.func125 trivial)))))))))))) (And.intro trivial (And.intro (And.intro (And.intro (And.intro (And.intro (And.intro (And.intro trivial (And.intro Tryz.func128 trivial)) (And.intro Tryz.func64 trivial)) (And.intro Tryz.func32 (And.intro trivial (And.intro Tryz.func96 trivial)))) (And.intro Tryz.func16 (And.intro (And.intro (And.intro trivial (And.intro Tryz.func144 trivial)) (And.intro Tryz.func80 trivial)) (And.intro Tryz.func48 (And.intro trivial (And.intro Tryz.func112 trivial)))))) (And.intro Tryz.func8 (And.intro (And.intro (And.intro (And.intro trivial (And.intro Tryz.func136 trivial)) (And.intro Tryz.func72 trivial)) (And.intro Tryz.func40 (And.intro trivial (And.intro Tryz.func104 trivial)))) (And.intro Tryz.func24 (And.intro (And.intro (And.intro trivial (And.intro Tryz.func152 trivial)) (And.intro Tryz.func88 trivial)) (And.intro Tryz.func56 (And.intro trivial (And.intro Tryz.func120 trivial)))))))) (And.intro Tryz.func4 (And.intro (And.intro (And.intro (And.intro (And.intro trivial (And.intro Tryz.func132 trivial)) (And.intro Tryz.func68 trivial)) (And.intro Tryz.func36 (And.intro trivial (And.intro Tryz.func100 trivial)))) (And.intro Tryz.func20 (And.intro (And.intro (And.intro trivial (And.intro Tryz.func148 trivial)) (And.intro Tryz.func84 trivial)) (And.intro Tryz.func52 (And.intro trivial (And.intro Tryz.func116 trivial)))))) (And.intro Tryz.func12 (And.intro (And.intro (And.intro (And.intro trivial (And.intro Tryz.func140 trivial)) (And.intro Tryz.func76 trivial)) (And.intro Tryz.func44 (And.intro trivial (And.intro Tryz.func108 trivial)))) (And.intro Tryz.func28 (And.intro (And.intro (And.intro trivial (And.intro Tryz.func156 trivial)) (And.intro Tryz.func92 trivial)) (And.intro Tryz.func60 (And.intro trivial (And.intro Tryz.func124 trivial)))))))))) (And.intro Tryz.func2 (And.intro (And.intro (And.intro (And.intro (And.intro (And.intro trivial (And.intro Tryz.func130 trivial)) (And.intro Tryz.func66 trivial)) (And.intro Tryz.func34 (And.intro trivial (And.intro Tryz.func98 trivial)))) (And.intro Tryz.func18 (And.intro (And.intro (And.intro trivial (And.intro Tryz.func146 trivial)) (And.intro Tryz.func82 trivial)) (And.intro Tryz.func50 (And.intro trivial (And.intro Tryz.func114 trivial)))))) (And.intro Tryz.func10 (And.intro (And.intro (And.intro (And.intro trivial (And.intro Tryz.func138 trivial)) (And.intro Tryz.func74 trivial)) (And.intro Tryz.func42 (And.intro trivial (And.intro Tryz.func106 trivial)))) (And.intro Tryz.func26 (And.intro (And.intro (And.intro trivial (And.intro Tryz.func154 trivial)) (And.intro Tryz.func90 trivial)) (And.intro Tryz.func58 (And.intro trivial (And.intro Tryz.func122 trivial)))))))) (And.intro Tryz.func6 (And.intro (And.intro (And.intro (And.intro (And.intro trivial (And.intro Tryz.func134 trivial)) (And.intro Tryz.func70 trivial)) (And.intro Tryz.func38 (And.intro trivial (And.intro Tryz.func102 trivial)))) (And.intro Tryz.func22 (And.intro (And.intro (And.intro trivial (And.intro Tryz.func150 trivial)) (And.intro Tryz.func86 trivial)) (And.intro Tryz.func54 (And.intro trivial (And.intro Tryz.func118 trivial)))))) (And.intro Tryz.func14 (And.intro (And.intro (And.intro (And.intro trivial (And.intro Tryz.func142 trivial)) (And.intro Tryz.func78 trivial)) (And.intro Tryz.func46 (And.intro trivial (And.intro Tryz.func110 trivial)))) (And.intro Tryz.func30 (And.intro (And.intro trivial (And.intro Tryz.func94 trivial)) (And.intro Tryz.func62 (And.intro trivial (And.intro Tryz.func126 trivial))))))))))))))
end CX

/-
  CX: operations that look at no memory do what the executor says (2).
-/
namespace CX
open Go

theorem take_eq : ∀ (n : Nat) (l : List V), take n l = l.take n
  | 0, _ => by simp [take]
  | _ + 1, [] => by simp [take]
  | n + 1, x :: l => by simp [take, take_eq n l]
theorem drop_eq : ∀ (n : Nat) (l : List V), drop n l = l.drop n
  | 0, _ => by simp [drop]
  | _ + 1, [] => by simp [drop]
  | n + 1, x :: l => by simp [drop, drop_eq n l]

theorem packR_ok {ρ : Nm} {n : Nat} {agg : Bool} {l : List V} {x : List Value} {k : V → R} {r : Ex × St} (hl : RvL ρ n l x) (h : packR agg l k = some r) :
    ∃ v u, k v = some r ∧ Rv ρ n v u ∧ (agg = true → u = .agg x.toArray) ∧ (agg = false → x = [u] ∧ l = [v]) := by
  cases agg with
  | true =>
    simp only [packR] at h
    exact ⟨_, .agg x.toArray, h, by simp only [Rv]; exact ⟨x, hl, rfl⟩, fun _ => rfl, fun h => by cases h⟩
  | false =>
    simp only [packR] at h
    split at h
    · rename_i v
      match x, hl with
      | [u], hl =>
        simp only [RvL] at hl
        exact ⟨v, u, h, hl.1, (fun h => by cases h), (fun _ => ⟨rfl, rfl⟩)⟩
      | [], hl => simp [RvL] at hl
      | _ :: _ :: _, hl => simp [RvL] at hl
    · cases h

theorem evL_ok {ρ : Nm} {n : Nat} {ev : Operand → Option V} {ρe : Operand → Value} : ∀ (l : List Operand) {k : List V → R} {r : Ex × St}, (∀ x ∈ l, ∀ v, ev x = some v → Rv ρ n v (ρe x)) → evL ev l k = some r →
    ∃ vs, k vs = some r ∧ RvL ρ n vs (l.map ρe)
  | [], k, r, _, h => ⟨[], h, by simp [RvL]⟩
  | x :: l, k, r, hev, h => by
    simp only [evL] at h
    split at h
    · rename_i v hv
      obtain ⟨vs, h1, h2⟩ := evL_ok l (fun y hy => hev y (by simp [hy])) h
      exact ⟨_, h1, by simp only [List.map_cons, RvL]; exact ⟨hev x (by simp) v hv, h2⟩⟩
    · cases h

theorem run_bounds {P : Program} {w : World} {isSl : Bool} {ln cp l r : Nat} {lo hi : Option Value} (hlo : lo = none ∧ l = 0 ∨ ∃ k, lo = some (.int k (l : Int))) (hhi : hi = none ∧ r = ln ∨ ∃ k, hi = some (.int k (r : Int)))
    (h1 : l ≤ r) (h2 : r ≤ cp) : (Instr.sliceBounds isSl ln cp lo hi none).run P w = .ok (l, r, cp) w := by
  have b : ∀ (k : IntKind) (x y : Nat) (code : BoundsCode), x ≤ y → (Instr.sliceBound (.int k (x : Int)) y code).run P w = .ok x w := by
    intro k x y code h
    have h' : (0 : Int) ≤ (x : Int) ∧ (x : Int) ≤ (y : Int) := by omega
    simp only [Instr.sliceBound, asIntOf, Sem.run_bind, Sem.run_pure, Result.andThen_ok]
    rw [if_pos h']
    simp
  rcases hlo with ⟨rfl, rfl⟩ | ⟨k, rfl⟩ <;> rcases hhi with ⟨rfl, rfl⟩ | ⟨k', rfl⟩ <;> simp [Instr.sliceBounds, b, h1, h2]

section
variable {P : Program} {E : Env} (hE : EnvOk E P) {ρ : Nm} {n : Nat}
include hE

theorem elem_ok {t es : Nat} (h : elemSize E t = some es) : ∃ e ety i z, P.underlying t = some (.slice e) ∧ E.T e = some ety ∧ kindOf E t = .slice e ∧ ety.size = es ∧ 0 < es ∧ P.info? e = some i ∧ i.size = es ∧ i.bytes = ety.bytes ∧ i.zero = some z ∧ (∀ ρ n, RvL ρ n ety.zero z.cells.toList) := by
  unfold elemSize at h
  split at h
  · rename_i e hk
    obtain ⟨d, hd, hkd⟩ := und_of hE hk (by simp)
    simp only [KdOk] at hkd
    subst hkd
    split at h
    · rename_i ety hety
      obtain ⟨i, z, hi, hs, hb, hz, hzr, _⟩ := (hE.T _ _ hety).info
      split at h
      · cases h
      · rename_i m hm
        simp only [Option.some.injEq] at h
        exact ⟨e, ety, i, z, hd, hety, hk, by omega, by omega, hi, by omega, hb, hz, hzr⟩
    · cases h
  · cases h

omit hE in
theorem bnd_ok {lo : Option V} {lo' : Option Value} {d l : Nat} (hlo : ∀ v, lo = some v → ∃ u, lo' = some u ∧ Rv ρ n v u) (hlo0 : lo = none → lo' = none) (h : bnd lo d = some l) : lo' = none ∧ l = d ∨ ∃ k, lo' = some (.int k (l : Int)) := by
  cases lo with
  | none => simp only [bnd, Option.some.injEq] at h; exact .inl ⟨hlo0 rfl, h.symm⟩
  | some v =>
    obtain ⟨u, hu, hr⟩ := hlo v rfl
    cases v <;> simp only [bnd] at h <;> try cases h
    rename_i k m
    simp only [Rv] at hr
    subst hr
    cases m with
    | ofNat m => simp only [Option.some.injEq] at h; subst h; exact .inr ⟨_, hu⟩
    | negSucc m => cases h

theorem sliceX_ok {t es : Nat} (hes : elemSize E t = some es) {x : V} {u : Value} (hx : Rv ρ n x u) {lo hi : Option V} {lo' hi0 : Option Value}
    (hlo : ∀ v, lo = some v → ∃ u, lo' = some u ∧ Rv ρ n v u) (hlo0 : lo = none → lo' = none) (hhi : ∀ v, hi = some v → ∃ u, hi0 = some u ∧ Rv ρ n v u) (hhi0 : hi = none → hi0 = none)
    {k : V → R} {r : Ex × St} (h : sliceX es x lo hi k = some r) : ∃ v u', k v = some r ∧ Rv ρ n v u' ∧ ∀ w, (Instr.sliceAt t u lo' hi0 none).run P w = .ok u' w := by
  obtain ⟨e, ety, i, z, hu, _, _, _, hpos, hi', hs, _⟩ := elem_ok hE hes
  have bl : ∀ l, bnd lo 0 = some l → lo' = none ∧ l = 0 ∨ ∃ k, lo' = some (.int k (l : Int)) := fun l h => bnd_ok hlo hlo0 h
  have bh : ∀ ln l, bnd hi ln = some l → hi0 = none ∧ l = ln ∨ ∃ k, hi0 = some (.int k (l : Int)) := fun ln l h => bnd_ok hhi hhi0 h
  unfold sliceX at h
  split at h
  · rename_i id es' off ln cap
    split at h
    · rename_i l rr he hl hr
      have he : es = es' := by simpa using he
      subst he
      have hl := bl _ hl
      have hr := bh _ _ hr
      split at h
      · rename_i hc
        simp only [Bool.and_eq_true, Nat.ble_eq] at hc
        obtain ⟨h1, h2⟩ := hc
        rw [fN_eq] at h
        have hsub : Nat.sub rr l = rr - l := rfl
        have hmul : Nat.add off (Nat.mul l es) = off + l * es := rfl
        cases cap with
        | some c =>
          simp only [Rv] at hx
          obtain ⟨hid, _, hln, L, hL, rfl⟩ := hx
          simp only at h h2
          have hrun : ∀ w, (Instr.sliceAt t (.slice (some ⟨L.b, L.base + off, none⟩) ln c) lo' hi0 none).run P w =
              .ok (.slice (if c = l then some ⟨L.b, L.base + off, none⟩ else some ⟨L.b, L.base + off + l * es, none⟩) (rr - l) (c - l)) w := by
            intro w
            simp only [Instr.sliceAt, Sem.run_bind, run_underlying hu, Result.andThen_ok, Instr.slice, run_bounds hl hr h1 h2, run_sizeOf' hi', hs, Sem.run_pure, Option.map_some, add_at]
          split at h
          · rename_i hcl
            have hcl : c = l := Nat.eq_of_beq_eq_true hcl
            refine ⟨_, .slice (some ⟨L.b, L.base + off, none⟩) (rr - l) 0, h, ?_, fun w => ?_⟩
            · simp only [Rv]
              exact ⟨hid, hpos, by rw [hsub]; omega, L, hL, by rw [hsub]⟩
            · rw [hrun w, if_pos hcl, hcl, Nat.sub_self]
          · rename_i hcl
            have hcl : c ≠ l := fun e => by subst e; simp at hcl
            rw [fN_eq, fN_eq] at h
            refine ⟨_, .slice (some ⟨L.b, L.base + off + l * es, none⟩) (rr - l) (c - l), h, ?_, fun w => ?_⟩
            · simp only [Rv]
              refine ⟨hid, hpos, ?_, L, hL, ?_⟩
              · rw [hsub, show Nat.sub c l = c - l from rfl]; omega
              · rw [hsub, hmul, show Nat.sub c l = c - l from rfl, Nat.add_assoc]
            · rw [hrun w, if_neg hcl]
        | none =>
          simp only [Rv] at hx
          obtain ⟨hid, _, L, c, off', hL, rfl, hln, hbs, hoff⟩ := hx
          simp only at h h2
          have h2' : rr ≤ c := by omega
          rw [fN_eq] at h
          have hrun : ∀ w, (Instr.sliceAt t (.slice (some ⟨L.b, off', none⟩) ln c) lo' hi0 none).run P w =
              .ok (.slice (if c = l then some ⟨L.b, off', none⟩ else some ⟨L.b, off' + l * es, none⟩) (rr - l) (c - l)) w := by
            intro w
            simp only [Instr.sliceAt, Sem.run_bind, run_underlying hu, Result.andThen_ok, Instr.slice, run_bounds hl hr h1 h2', run_sizeOf' hi', hs, Sem.run_pure, Option.map_some, add_at]
          have hmulc : l * es + (c - l) * es = c * es := by rw [← Nat.add_mul]; congr 1; omega
          by_cases hcl : c = l
          · refine ⟨_, .slice (some ⟨L.b, off', none⟩) (rr - l) 0, h, ?_, fun w => by rw [hrun w, if_pos hcl, hcl, Nat.sub_self]⟩
            simp only [Rv]
            exact ⟨hid, hpos, L, 0, off', hL, by rw [hsub], by rw [hsub]; omega, by rw [hmul, ← hbs, hcl]; omega, .inr rfl⟩
          · have hoff' : off' = L.base + off := by
              rcases hoff with h | h
              · exact h
              · omega
            refine ⟨_, .slice (some ⟨L.b, off' + l * es, none⟩) (rr - l) (c - l), h, ?_, fun w => by rw [hrun w, if_neg hcl]⟩
            simp only [Rv]
            refine ⟨hid, hpos, L, c - l, off' + l * es, hL, by rw [hsub], by rw [hsub]; omega, by rw [hmul]; omega, .inl ?_⟩
            rw [hmul]; omega
      · cases h
    · cases h
  · simp only [Rv] at hx
    subst hx
    split at h
    · rename_i hl hr
      have hl := bl _ hl
      have hr := bh _ _ hr
      refine ⟨_, .slice none 0 0, h, by simp only [Rv], fun w => ?_⟩
      have := run_bounds (P := P) (w := w) (isSl := true) (ln := 0) (cp := 0) hl hr (Nat.le_refl _) (Nat.le_refl _)
      simp [Instr.sliceAt, run_underlying hu, Instr.slice, this, run_sizeOf' hi']
    · cases h
  · cases h

/-- a slice of an array that lies at an address -/
theorem slicePtr_ok {t m e : Nat} (hk : kindOf E t = .arr m e) {ety : Ty} (hety : E.T e = some ety) {L : Loc} {off : Nat} {lo' hi' : Option Value} {l r : Nat} (hlo : lo' = none ∧ l = 0 ∨ ∃ k, lo' = some (.int k (l : Int)))
    (hhi : hi' = none ∧ r = m ∨ ∃ k, hi' = some (.int k (r : Int))) (h1 : l ≤ r) (h2 : r ≤ m) :
    ∀ w, (Instr.sliceAt t (.pointer (some ⟨L.b, L.base + off, none⟩)) lo' hi' none).run P w =
      .ok (.slice (some (if m = l then ⟨L.b, L.base + off, none⟩ else ⟨L.b, L.base + off + l * ety.size, none⟩)) (r - l) (m - l)) w := by
  intro w
  obtain ⟨d, hd, hkd⟩ := und_of hE hk (by simp)
  simp only [KdOk] at hkd
  subst hkd
  obtain ⟨i, z, hi, hs, _⟩ := (hE.T _ _ hety).info
  simp only [Instr.sliceAt, Sem.run_bind, run_underlying hd, Result.andThen_ok, Instr.sureAddr, Sem.run_pure, run_bounds hlo hhi h1 h2, run_sizeOf' hi, hs, add_at]


theorem sliceA_ok {t : Nat} {x : V} {u : Value} (hx : Rv ρ n x u) {lo hi : Option V} {lo' hi0 : Option Value}
    (hlo : ∀ v, lo = some v → ∃ u, lo' = some u ∧ Rv ρ n v u) (hlo0 : lo = none → lo' = none) (hhi : ∀ v, hi = some v → ∃ u, hi0 = some u ∧ Rv ρ n v u) (hhi0 : hi = none → hi0 = none)
    {k : V → R} {r : Ex × St} (h : sliceA E t x lo hi k = some r) : ∃ v u', k v = some r ∧ Rv ρ n v u' ∧ ∀ w, (Instr.sliceAt t u lo' hi0 none).run P w = .ok u' w := by
  unfold sliceA at h
  split at h
  · rename_i id off
    simp only [Rv] at hx
    obtain ⟨hid, L, hL, rfl⟩ := hx
    split at h
    · rename_i m e hk
      split at h
      · rename_i ety l rr hety hl hr
        split at h
        · rename_i hc hz
          simp only [Bool.and_eq_true, Nat.ble_eq] at hc
          have hz : 0 < ety.size := by
            rcases Nat.eq_zero_or_pos ety.size with h0 | h0
            · rw [h0] at hz; simp at hz
            · exact h0
          have hrun := slicePtr_ok hE (P := P) hk hety (L := L) (off := off) (bnd_ok hlo hlo0 hl) (bnd_ok hhi hhi0 hr) hc.1 hc.2
          rw [fN_eq] at h
          have hsub : ∀ a b, Nat.sub a b = a - b := fun _ _ => rfl
          split at h
          · rename_i hml
            have hml : m = l := Nat.eq_of_beq_eq_true hml
            refine ⟨_, .slice (some ⟨L.b, L.base + off, none⟩) (rr - l) 0, h, ?_, fun w => ?_⟩
            · simp only [Rv, hsub]
              exact ⟨hid, hz, by omega, L, hL, rfl⟩
            · rw [hrun w, if_pos hml, hml, Nat.sub_self]
          · rename_i hml
            have hml : m ≠ l := fun e => by subst e; simp at hml
            rw [fN_eq, fN_eq] at h
            refine ⟨_, .slice (some ⟨L.b, L.base + off + l * ety.size, none⟩) (rr - l) (m - l), h, ?_, fun w => ?_⟩
            · simp only [Rv, hsub]
              refine ⟨hid, hz, by omega, L, hL, ?_⟩
              rw [show Nat.add off (Nat.mul l ety.size) = off + l * ety.size from rfl, Nat.add_assoc]
            · rw [hrun w, if_neg hml]
        · cases h
      · cases h
    · cases h
  · split at h
    · rename_i es hes
      exact sliceX_ok hE hes hx hlo hlo0 hhi hhi0 h
    · cases h

omit hE in
theorem evO_ok {ev : Operand → Option V} {ρe : Operand → Value} {x : Option Operand} (hev : ∀ y ∈ x.toList, ∀ v, ev y = some v → Rv ρ n v (ρe y)) {o : Option V} (h : evO ev x = some o) :
    (∀ v, o = some v → ∃ u, x.map ρe = some u ∧ Rv ρ n v u) ∧ (o = none → x.map ρe = none) := by
  cases x with
  | none =>
    simp only [evO, Option.some.injEq] at h
    subst h
    exact ⟨(fun v h => by cases h), (fun _ => rfl)⟩
  | some y =>
    simp only [evO] at h
    split at h
    · rename_i v hv
      simp only [Option.some.injEq] at h
      subst h
      refine ⟨fun w hw => ?_, (fun h => by cases h)⟩
      simp only [Option.some.injEq] at hw
      subst hw
      exact ⟨ρe y, rfl, hev y (by simp) v hv⟩
    · cases h

theorem fieldInfo {t i o ft : Nat} {fs : List (Nat × Nat)} (hk : kindOf E t = .struct fs) (hi : nth fs i = some (o, ft)) {ty : Ty} (hty : E.T ft = some ty) :
    ∃ fields f j, P.underlying t = some (.struct fields) ∧ fields[i]? = some f ∧ f.offset = o ∧ f.type = ft ∧ P.info? ft = some j ∧ j.size = ty.size := by
  obtain ⟨d, hd, hkd⟩ := und_of hE hk (by simp)
  simp only [KdOk] at hkd
  obtain ⟨fields, rfl, hmap, _⟩ := hkd
  rw [nth_eq, ← hmap, List.getElem?_map] at hi
  cases hf : fields.toList[i]? with
  | none => rw [hf] at hi; cases hi
  | some f =>
    rw [hf] at hi
    simp only [Option.map_some, Option.some.injEq, Prod.mk.injEq] at hi
    obtain ⟨j, _, hj, hjs, _⟩ := (hE.T _ _ hty).info
    exact ⟨fields, f, j, hd, by simpa using hf, hi.1, hi.2, hj, hjs⟩

/-- A part of a value. -/
theorem part_ok {t : Nat} {ty : Ty} (hty : E.T t = some ty) {l : List V} {x : List Value} (hl : RvL ρ n l x) {off : Nat} {k : V → R} {r : Ex × St}
    (h : packR ty.agg ((l.drop off).take ty.size) k = some r) : ∃ v u, k v = some r ∧ Rv ρ n v u ∧ ∀ w, (Go.part t x.toArray off).run P w = .ok u w := by
  obtain ⟨i, z, hi, hs, _⟩ := (hE.T _ _ hty).info
  obtain ⟨d, hd, hag, _⟩ := (hE.T _ _ hty).und
  have hlen := hl.length
  obtain ⟨v, u, h1, h2, h3, h4⟩ := packR_ok ((hl.drop off).take ty.size) h
  refine ⟨v, u, h1, h2, fun w => ?_⟩
  simp only [Go.part, Sem.run_bind, run_isAgg' hd, Result.andThen_ok, hag]
  cases ha : ty.agg with
  | true =>
    rw [if_pos rfl]
    simp only [Sem.run_bind, run_sizeOf' hi, Result.andThen_ok, Sem.run_pure, h3 ha, hs]
    congr 2
    apply Array.ext'
    simp
  | false =>
    obtain ⟨h5, _⟩ := h4 ha
    have h6 : x[off]? = some u := by
      have := congrArg (fun l => l[0]?) h5
      simp only [List.getElem?_take, List.getElem?_drop, List.getElem?_cons_zero] at this
      split at this
      · simpa using this
      · cases this
    simp [h6]

omit hE in
theorem minmax_ok (f : Int → Int → Bool) (g : Value → Value → Sem Value) (hg : ∀ k x y w, (g (.int k x) (.int k y)).run P w = .ok (.int k (if f y x then y else x)) w) :
    ∀ (l : List V) (kd : IntKind) (m : Int) (us : List Value) {k : V → R} {r : Ex × St}, RvL ρ n l us → minmax f kd m l k = some r →
      ∃ v u, k v = some r ∧ Rv ρ n v u ∧ ∀ w, (us.foldlM g (.int kd m)).run P w = .ok u w
  | [], kd, m, [], k, r, _, h => ⟨_, .int kd m, h, by simp only [Rv], fun w => by simp⟩
  | v :: l, kd, m, u :: us, k, r, hr, h => by
    simp only [RvL] at hr
    cases v <;> simp only [minmax] at h <;> try cases h
    rename_i kd' q
    have hr1 := hr.1
    simp only [Rv] at hr1
    subst hr1
    split at h
    · rename_i hk
      have := kindEq_ok hk
      subst this
      split at h
      · rename_i hf
        obtain ⟨v, u, h1, h2, h3⟩ := minmax_ok f g hg l kd q us hr.2 h
        exact ⟨v, u, h1, h2, fun w => by rw [List.foldlM_cons, Sem.run_bind, hg, hf, Result.andThen_ok, if_pos rfl]; exact h3 w⟩
      · rename_i hf
        obtain ⟨v, u, h1, h2, h3⟩ := minmax_ok f g hg l kd m us hr.2 h
        exact ⟨v, u, h1, h2, fun w => by rw [List.foldlM_cons, Sem.run_bind, hg, hf, Result.andThen_ok, if_neg (by simp)]; exact h3 w⟩
    · cases h
  | [], _, _, _ :: _, _, _, h, _ => by simp [RvL] at h
  | _ :: _, _, _, [], _, _, h, _ => by simp [RvL] at h

omit hE in
theorem ilt_eq (a b : Int) : ilt a b = decide (a < b) := by
  simp only [ilt, ile_eq]
  by_cases h : a < b
  · simp [h, Int.not_le.2 h]
  · simp [h, Int.not_lt.1 h]
omit hE in
theorem igt_eq (a b : Int) : igt a b = decide (b < a) := by
  simp only [igt, ile_eq]
  by_cases h : b < a
  · simp [h, Int.not_le.2 h]
  · simp [h, Int.not_lt.1 h]

omit hE in
theorem run_builtin {o : Oper} {c : Call} {b : Builtin} (ho : o.op = .call c) (hc : c.callee = .builtin b) (ρe : Operand → Value) :
    ∃ cs, ∀ w, (execOp ρe o).run P w = (Go.builtin b c.argTypes o.type cs (c.args.map ρe)).run P w :=
  ⟨_, fun w => by simp [execOp, ho, resolve, hc, invoke]; rfl⟩

/-- **What looks at no memory.** -/
theorem opP_ok {o : Oper} {ev : Operand → Option V} {ρe : Operand → Value} (hev : ∀ x ∈ o.op.operands, ∀ v, ev x = some v → Rv ρ n v (ρe x))
    {k : V → R} {r : Ex × St} (h : opP E ev o.op k = some r) : ∃ v u, k v = some r ∧ Rv ρ n v u ∧ ∀ w, (execOp ρe o).run P w = .ok (.value u) w := by
  cases ho : o.op with
  | move x =>
    rw [ho] at h hev
    simp only [opP] at h
    split at h
    · rename_i v hv
      exact ⟨v, ρe x, h, hev x (by simp [Op.operands]) v hv, fun w => by simp [execOp, ho]⟩
    · cases h
  | assign x =>
    rw [ho] at h hev
    simp only [opP] at h
    split at h
    · rename_i v hv
      exact ⟨v, ρe x, h, hev x (by simp [Op.operands]) v hv, fun w => by simp [execOp, ho]⟩
    · cases h
  | pick c a b =>
    rw [ho] at h hev
    simp only [opP] at h
    split at h
    · rename_i hc
      have hc := hev c (by simp [Op.operands]) _ hc
      simp only [Rv] at hc
      split at h
      · rename_i v hv
        exact ⟨v, ρe a, h, hev a (by simp [Op.operands]) v hv, fun w => by simp [execOp, ho, hc, asBool]⟩
      · cases h
    · rename_i hc
      have hc := hev c (by simp [Op.operands]) _ hc
      simp only [Rv] at hc
      split at h
      · rename_i v hv
        exact ⟨v, ρe b, h, hev b (by simp [Op.operands]) v hv, fun w => by simp [execOp, ho, hc, asBool]⟩
      · cases h
    · cases h
  | build t ps =>
    rw [ho] at h hev
    refine build_ok hE ho (fun p hp v hv => hev p.2 ?_ v hv) h
    simp only [Op.operands, List.mem_toArray, List.mem_map]
    exact ⟨p, hp, rfl⟩
  | nilCheck x =>
    rw [ho] at h hev
    simp only [opP] at h
    split at h
    · rename_i id off hv
      have hr := hev x (by simp [Op.operands]) _ hv
      have hr0 := hr
      simp only [Rv] at hr
      obtain ⟨_, L, _, hu⟩ := hr
      exact ⟨_, ρe x, h, hr0, fun w => by simp [execOp, ho, hu]⟩
    · rename_i f a b hv
      have hr := hev x (by simp [Op.operands]) _ hv
      have hr0 := hr
      simp only [Rv] at hr
      obtain ⟨_, _, _, _, hu⟩ := hr
      exact ⟨_, ρe x, h, hr0, fun w => by simp [execOp, ho, hu]⟩
    · cases h
  | binOp op t x y ty =>
    rw [ho] at h hev
    simp only [opP] at h
    split at h
    · rename_i a b ha hb
      exact bin_ok hE ho (hev x (by simp [Op.operands]) _ ha) (hev y (by simp [Op.operands]) _ hb) h
    · cases h
  | unOp op t x =>
    rw [ho] at h hev
    simp only [opP] at h
    split at h
    · rename_i a ha
      exact un_ok ho (hev x (by simp [Op.operands]) _ ha) h
    · cases h
  | makeInterface t x =>
    rw [ho] at h hev
    simp only [opP] at h
    split at h
    · rename_i a ha
      split at h
      · rename_i ty hty
        obtain ⟨d, hd, _, hkd⟩ := (hE.T _ _ hty).und
        split at h
        · cases h
        · rename_i hni
          refine ⟨_, .iface t (ρe x), h, by simp only [Rv]; exact ⟨_, hev x (by simp [Op.operands]) _ ha, rfl⟩, fun w => ?_⟩
          have hd' : ∀ ms, d ≠ .interface ms := by
            intro ms hms
            subst hms
            generalize ty.kd = kk at hkd hni
            cases kk <;> simp only [KdOk] at hkd <;> first | exact hkd ms rfl | (cases hkd; done) | (obtain ⟨_, hc, _⟩ := hkd; cases hc; done) | exact hni rfl
          simp only [execOp, ho, Instr.makeInterface, Sem.run_bind, run_underlying hd, Result.andThen_ok]
          cases d <;> first | exact absurd rfl (hd' _) | simp
      · cases h
    · cases h
  | makeFunc f a b =>
    rw [ho] at h hev
    simp only [opP] at h
    split at h
    · rename_i f'
      obtain ⟨va, h1, h2⟩ := evL_ok (ρ := ρ) (n := n) (ρe := ρe) a.toList (fun x hx => hev x (by simp only [Op.operands, Array.mem_append]; exact .inl (by simpa using hx))) h
      obtain ⟨vb, h3, h4⟩ := evL_ok (ρ := ρ) (n := n) (ρe := ρe) b.toList (fun x hx => hev x (by simp only [Op.operands, Array.mem_append]; exact .inr (by simpa using hx))) h1
      refine ⟨_, .func (.func f') (a.map ρe) (b.map ρe), h3, by simp only [Rv]; exact ⟨_, _, h2, h4, by congr 1 <;> (apply Array.ext'; simp)⟩, fun w => by simp [execOp, ho, Instr.makeFunc]⟩
    · cases h
  | slice t x lo hi mx =>
    rw [ho] at h hev
    cases mx with
    | some m => simp [opP] at h
    | none =>
      simp only [opP] at h
      split at h
      · rename_i a l hh ha hl hh'
        obtain ⟨l1, l2⟩ := evO_ok (ρ := ρ) (n := n) (ρe := ρe) (fun y hy => hev y (by simp [Op.operands]; simp at hy; simp [hy])) hl
        obtain ⟨h1, h2⟩ := evO_ok (ρ := ρ) (n := n) (ρe := ρe) (fun y hy => hev y (by simp [Op.operands]; simp at hy; simp [hy])) hh'
        obtain ⟨v, u, g1, g2, g3⟩ := sliceA_ok hE (hev x (by simp [Op.operands]) _ ha) l1 l2 h1 h2 h
        exact ⟨v, u, g1, g2, fun w => by simp [execOp, ho, g3 w]⟩
      · cases h
  | fieldAddr t x i =>
    rw [ho] at h hev
    simp only [opP] at h
    split at h
    · rename_i fs id off hk hx
      split at h
      · rename_i o' ft hi
        split at h
        · rename_i ty hty
          split at h
          · cases h
          · rename_i hsz
            rw [fN_eq] at h
            obtain ⟨fields, f, j, hu, hf, hfo, hft, hj, hjs⟩ := fieldInfo hE hk hi hty
            have hr := hev x (by simp [Op.operands]) _ hx
            simp only [Rv] at hr
            obtain ⟨hid, L, hL, hu'⟩ := hr
            refine ⟨_, .pointer (some ⟨L.b, L.base + off + o', none⟩), h, by simp only [Rv]; exact ⟨hid, L, hL, by rw [show Nat.add off o' = off + o' from rfl, Nat.add_assoc]⟩, fun w => ?_⟩
            have hplace : ∀ a : Addr, (fieldPlace a f).run P w = .ok (a.add f.offset) w := by
              intro a
              have hj0 : j.size ≠ 0 := by rw [hjs]; exact fun e => hsz e
              simp [fieldPlace, hft, run_sizeOf' hj, hj0]
            simp [execOp, ho, hu', Instr.fieldAt, run_underlying hu, hf, Instr.sureAddr, hplace, hfo, add_at]
        · cases h
      · cases h
    · cases h
  | field t x i =>
    rw [ho] at h hev
    simp only [opP] at h
    split at h
    · rename_i fs l hk hx
      split at h
      · rename_i o' ft hi
        split at h
        · rename_i ty hty
          split at h
          · rename_i hle
            rw [fL_eq, take_eq, drop_eq] at h
            obtain ⟨fields, f, j, hu, hf, hfo, hft, hj, hjs⟩ := fieldInfo hE hk hi hty
            have hr := hev x (by simp [Op.operands]) _ hx
            simp only [Rv] at hr
            obtain ⟨xs, hxs, hu'⟩ := hr
            obtain ⟨v, u, g1, g2, g3⟩ := part_ok hE hty hxs h
            refine ⟨v, u, g1, g2, fun w => ?_⟩
            simp [execOp, ho, hu', Instr.field, run_underlying hu, hf, asAgg, hft, hfo, g3 w]
          · cases h
        · cases h
      · cases h
    · cases h
  | indexAddr t x i =>
    rw [ho] at h hev
    simp only [opP] at h
    split at h
    · rename_i e id es off ln c ki m hk hx hi
      obtain ⟨d, hd, hkd⟩ := und_of hE hk (by simp)
      simp only [KdOk] at hkd
      subst hkd
      have hri := hev i (by simp [Op.operands]) _ hi
      simp only [Rv] at hri
      have hr := hev x (by simp [Op.operands]) _ hx
      split at h
      · rename_i ety hety
        obtain ⟨j, _, hj, hjs, _⟩ := (hE.T _ _ hety).info
        split at h
        · rename_i hc
          simp only [Bool.and_eq_true, Nat.beq_eq, Nat.blt_eq] at hc
          obtain ⟨hes, hm⟩ := hc
          rw [fN_eq] at h
          have hs : ∃ L c', id < n ∧ ρ id = some L ∧ ρe x = .slice (some ⟨L.b, L.base + off, none⟩) ln c' := by
            cases c with
            | none =>
              simp only [Rv] at hr
              obtain ⟨h0, _, L, c', o', h1, h2, h3, _, h5⟩ := hr
              have : o' = L.base + off := by
                rcases h5 with h5 | h5
                · exact h5
                · omega
              exact ⟨L, c', h0, h1, by rw [h2, this]⟩
            | some c =>
              simp only [Rv] at hr
              obtain ⟨h0, _, _, L, h1, h2⟩ := hr
              exact ⟨L, c, h0, h1, h2⟩
          obtain ⟨L, c', hid, hL, hu'⟩ := hs
          refine ⟨_, .pointer (some ⟨L.b, L.base + off + m * es, none⟩), h, by simp only [Rv]; exact ⟨hid, L, hL, by rw [show Nat.add off (Nat.mul m es) = off + m * es from rfl, Nat.add_assoc]⟩, fun w => ?_⟩
          have hm' : (0 : Int) ≤ Int.ofNat m ∧ Int.ofNat m < (ln : Int) := ⟨Int.natCast_nonneg _, Int.ofNat_lt.2 hm⟩
          simp only [execOp, ho, hu', hri, Instr.indexAt, asIntOf, Sem.run_bind, Sem.run_pure, Result.andThen_ok, run_underlying hd]
          rw [if_pos hm']
          simp [run_sizeOf' hj, hjs, hes, add_at]
        · cases h
      · cases h
    · rename_i ln e id off ki m hk hx hi
      obtain ⟨d, hd, hkd⟩ := und_of hE hk (by simp)
      simp only [KdOk] at hkd
      subst hkd
      have hri := hev i (by simp [Op.operands]) _ hi
      simp only [Rv] at hri
      have hr := hev x (by simp [Op.operands]) _ hx
      simp only [Rv] at hr
      obtain ⟨hid, L, hL, hu'⟩ := hr
      split at h
      · rename_i ety hety
        obtain ⟨j, _, hj, hjs, _⟩ := (hE.T _ _ hety).info
        split at h
        · rename_i hm
          rw [Nat.blt_eq] at hm
          rw [fN_eq] at h
          refine ⟨_, .pointer (some ⟨L.b, L.base + off + m * ety.size, none⟩), h, by simp only [Rv]; exact ⟨hid, L, hL, by rw [show Nat.add off (Nat.mul m ety.size) = off + m * ety.size from rfl, Nat.add_assoc]⟩, fun w => ?_⟩
          have hm' : (0 : Int) ≤ Int.ofNat m ∧ Int.ofNat m < (ln : Int) := ⟨Int.natCast_nonneg _, Int.ofNat_lt.2 hm⟩
          simp only [execOp, ho, hu', hri, Instr.indexAt, asIntOf, Sem.run_bind, Sem.run_pure, Result.andThen_ok, run_underlying hd, Instr.sureAddr]
          rw [if_pos hm']
          simp [run_sizeOf' hj, hjs, add_at]
        · cases h
      · cases h
    · cases h
  | index t x i =>
    rw [ho] at h hev
    simp only [opP] at h
    split at h
    · rename_i ln e l ki m hk hx hi
      obtain ⟨d, hd, hkd⟩ := und_of hE hk (by simp)
      simp only [KdOk] at hkd
      subst hkd
      have hri := hev i (by simp [Op.operands]) _ hi
      simp only [Rv] at hri
      have hr := hev x (by simp [Op.operands]) _ hx
      simp only [Rv] at hr
      obtain ⟨xs, hxs, hu'⟩ := hr
      split at h
      · rename_i ety hety
        obtain ⟨j, _, hj, hjs, _⟩ := (hE.T _ _ hety).info
        split at h
        · rename_i hc
          simp only [Bool.and_eq_true, Nat.blt_eq] at hc
          rw [fL_eq, take_eq, drop_eq] at h
          obtain ⟨v, u, g1, g2, g3⟩ := part_ok hE hety hxs h
          refine ⟨v, u, g1, g2, fun w => ?_⟩
          have hm' : (0 : Int) ≤ Int.ofNat m ∧ Int.ofNat m < (ln : Int) := ⟨Int.natCast_nonneg _, Int.ofNat_lt.2 hc.1⟩
          simp only [execOp, ho, hu', hri, Instr.index, asIntOf, Sem.run_bind, Sem.run_pure, Result.andThen_ok, run_underlying hd]
          rw [if_pos hm']
          have g3' := g3 w
          simp only [Nat.mul_eq] at g3'
          simp [run_sizeOf' hj, hjs, g3']
        · cases h
      · cases h
    · rename_i s ki m hk hx hi
      obtain ⟨d, hd, hkd⟩ := und_of hE hk (by simp)
      simp only [KdOk] at hkd
      subst hkd
      have hri := hev i (by simp [Op.operands]) _ hi
      simp only [Rv] at hri
      have hr := hev x (by simp [Op.operands]) _ hx
      simp only [Rv] at hr
      obtain ⟨hb, hu'⟩ := hr
      split at h
      · rename_i b hb'
        rw [nth_eq] at hb'
        refine ⟨_, .int .u8 (Int.ofNat b), h, by simp only [Rv], fun w => ?_⟩
        have hlt := (List.getElem?_eq_some_iff.1 hb').1
        have hbb : b < 256 := hb b (List.mem_of_getElem? hb')
        have hget : (bytesOf s)[m]? = some (UInt8.ofNat b) := by
          have hm : m < (bytesOf s).size := by rw [bytesOf_size]; exact hlt
          rw [getElem?_pos (bytesOf s) m hm]
          have : (bytesOf s)[m] = (s.map UInt8.ofNat).toArray[m]'(by simpa using hlt) := rfl
          rw [this]
          have hsb : s[m] = b := (List.getElem?_eq_some_iff.1 hb').2
          simp [hsb]
        have h0 : (0 : Int) ≤ Int.ofNat m := Int.natCast_nonneg _
        simp only [execOp, ho, hu', hri, Instr.index, asIntOf, Sem.run_bind, Sem.run_pure, Result.andThen_ok, run_underlying hd]
        rw [if_pos h0]
        simp [hget, Nat.mod_eq_of_lt hbb]
      · cases h
    · cases h
  | extract x i =>
    rw [ho] at h hev
    simp only [opP] at h
    split at h
    · rename_i l hx
      have hr := hev x (by simp [Op.operands]) _ hx
      simp only [Rv] at hr
      obtain ⟨xs, hxs, hu'⟩ := hr
      split at h
      · rename_i v hv
        rw [nth_eq] at hv
        obtain ⟨u, h1, h2⟩ := hxs.get i v hv
        exact ⟨v, u, h, h2, fun w => by simp [execOp, ho, hu', Instr.extract, h1]⟩
      · cases h
    · cases h
  | sliceToArrayPointer t x =>
    rw [ho] at h hev
    simp only [opP] at h
    split at h
    · rename_i m e id es off ln c hk hx
      obtain ⟨d, hd, hkd⟩ := und_of hE hk (by simp)
      simp only [KdOk] at hkd
      subst hkd
      have hr := hev x (by simp [Op.operands]) _ hx
      split at h
      · rename_i ety hety
        split at h
        · rename_i hc
          simp only [Bool.and_eq_true, Nat.beq_eq, Nat.ble_eq] at hc
          split at h
          · cases h
          · rename_i m' hm0
            have hs : ∃ L c', id < n ∧ ρ id = some L ∧ ρe x = .slice (some ⟨L.b, L.base + off, none⟩) ln c' := by
              cases c with
              | none =>
                simp only [Rv] at hr
                obtain ⟨h0, _, L, c', o', h1, h2, h3, _, h5⟩ := hr
                have : o' = L.base + off := by
                  rcases h5 with h5 | h5
                  · exact h5
                  · have hm0 : m ≠ 0 := fun e => hm0 e
                    omega
                exact ⟨L, c', h0, h1, by rw [h2, this]⟩
              | some c =>
                simp only [Rv] at hr
                obtain ⟨h0, _, _, L, h1, h2⟩ := hr
                exact ⟨L, c, h0, h1, h2⟩
            obtain ⟨L, c', hid, hL, hu'⟩ := hs
            refine ⟨_, .pointer (some ⟨L.b, L.base + off, none⟩), h, by simp only [Rv]; exact ⟨hid, L, hL, rfl⟩, fun w => ?_⟩
            simp [execOp, ho, hu', Instr.arrayAt, run_underlying hd, Nat.not_lt.2 hc.2]
        · cases h
      · cases h
    · cases h
  | convert s t x =>
    rw [ho] at h hev
    simp only [opP] at h
    split at h
    · rename_i sty kd kk m hs hk hx
      obtain ⟨d, hd, hkd⟩ := und_of hE hk (by simp)
      simp only [KdOk] at hkd
      subst hkd
      obtain ⟨ds, hds, _⟩ := (hE.T _ _ hs).und
      have hr := hev x (by simp [Op.operands]) _ hx
      simp only [Rv] at hr
      rw [wr_eq] at h
      exact ⟨_, .int kd (kd.wrap m), h, by simp only [Rv], fun w => by simp [execOp, ho, hr, convert, run_underlying hds, run_underlying hd, Conv.intToInt]⟩
    · rename_i sty ss hs hk hx
      obtain ⟨d, hd, hkd⟩ := und_of hE hk (by simp)
      simp only [KdOk] at hkd
      subst hkd
      obtain ⟨ds, hds, _⟩ := (hE.T _ _ hs).und
      have hr := hev x (by simp [Op.operands]) _ hx
      have hr0 := hr
      simp only [Rv] at hr
      exact ⟨_, ρe x, h, hr0, fun w => by simp [execOp, ho, hr.2, convert, run_underlying hds, run_underlying hd]⟩
    · cases h
  | call c =>
    rw [ho] at h hev
    simp only [opP] at h
    split at h
    · rename_i b hc
      obtain ⟨cs, hrun⟩ := run_builtin (P := P) ho hc ρe
      obtain ⟨vs, h1, h2⟩ := evL_ok (ρ := ρ) (n := n) (ρe := ρe) c.args.toList (fun x hx => hev x (by simp only [Op.operands, Call.operands, hc, Array.mem_append]; exact .inr (by simpa using hx))) h
      have hargs : c.args.map ρe = (c.args.toList.map ρe).toArray := by apply Array.ext'; simp
      generalize c.args.toList.map ρe = us at h2 hargs
      rw [hargs] at hrun
      cases b <;> simp only [biP] at h1 <;> try cases h1
      · -- cap
        split at h1
        · rename_i x t hts
          match us, h2 with
          | [u], h2 =>
            simp only [RvL] at h2
            have hat : c.argTypes = #[t] := by apply Array.ext'; simpa using hts
            split at h1
            · rename_i e hk _
              obtain ⟨d, hd, hkd⟩ := und_of hE hk (by simp)
              simp only [KdOk] at hkd
              subst hkd
              have hr := h2.1
              simp only [Rv] at hr
              subst hr
              exact ⟨_, .int .i64 0, h1, by simp only [Rv], fun w => by rw [hrun w]; simp [Go.builtin, Builtin.cap_, hat, run_underlying hd, goInt]⟩
            · rename_i e id es off ln c' hk _
              obtain ⟨d, hd, hkd⟩ := und_of hE hk (by simp)
              simp only [KdOk] at hkd
              subst hkd
              have hr := h2.1
              simp only [Rv] at hr
              obtain ⟨_, _, _, L, _, rfl⟩ := hr
              exact ⟨_, .int .i64 (Int.ofNat c'), h1, by simp only [Rv], fun w => by rw [hrun w]; simp [Go.builtin, Builtin.cap_, hat, run_underlying hd, goInt]⟩
            · cases h1
          | [], h2 => simp [RvL] at h2
          | _ :: _ :: _, h2 => simp [RvL] at h2
        · cases h1
      · -- len
        split at h1
        · rename_i x t hts
          match us, h2 with
          | [u], h2 =>
            simp only [RvL] at h2
            have hat : c.argTypes = #[t] := by apply Array.ext'; simpa using hts
            split at h1
            · rename_i e hk _
              obtain ⟨d, hd, hkd⟩ := und_of hE hk (by simp)
              simp only [KdOk] at hkd
              subst hkd
              have hr := h2.1
              simp only [Rv] at hr
              subst hr
              exact ⟨_, .int .i64 0, h1, by simp only [Rv], fun w => by rw [hrun w]; simp [Go.builtin, Builtin.len_, hat, run_underlying hd, goInt]⟩
            · rename_i e id es off ln c' hk _
              obtain ⟨d, hd, hkd⟩ := und_of hE hk (by simp)
              simp only [KdOk] at hkd
              subst hkd
              have hr := h2.1
              have hs : ∃ a c'', u = .slice a ln c'' := by
                cases c' with
                | none => simp only [Rv] at hr; obtain ⟨_, _, L, c, o, _, rfl, _⟩ := hr; exact ⟨_, _, rfl⟩
                | some c => simp only [Rv] at hr; obtain ⟨_, _, _, L, _, rfl⟩ := hr; exact ⟨_, _, rfl⟩
              obtain ⟨a, c'', rfl⟩ := hs
              exact ⟨_, .int .i64 (Int.ofNat ln), h1, by simp only [Rv], fun w => by rw [hrun w]; simp [Go.builtin, Builtin.len_, hat, run_underlying hd, goInt]⟩
            · rename_i s hk _
              obtain ⟨d, hd, hkd⟩ := und_of hE hk (by simp)
              simp only [KdOk] at hkd
              subst hkd
              have hr := h2.1
              simp only [Rv] at hr
              obtain ⟨_, rfl⟩ := hr
              rw [fN_eq] at h1
              exact ⟨_, .int .i64 (Int.ofNat s.length), h1, by simp only [Rv], fun w => by rw [hrun w]; simp [Go.builtin, Builtin.len_, hat, run_underlying hd, goInt, bytesOf_size]⟩
            · cases h1
          | [], h2 => simp [RvL] at h2
          | _ :: _ :: _, h2 => simp [RvL] at h2
        · cases h1
      · -- max
        split at h1
        · rename_i kd m l
          match us, h2 with
          | u :: us, h2 =>
            simp only [RvL] at h2
            have hr := h2.1
            simp only [Rv] at hr
            subst hr
            obtain ⟨v, u, g1, g2, g3⟩ := minmax_ok (P := P) igt Builtin.max2 (fun k x y w => by simp [Builtin.max2, igt_eq]) l kd m us h2.2 h1
            exact ⟨v, u, g1, g2, fun w => by rw [hrun w]; simp [Go.builtin, Builtin.max_, g3 w]⟩
          | [], h2 => simp [RvL] at h2
        · cases h1
      · -- min
        split at h1
        · rename_i kd m l
          match us, h2 with
          | u :: us, h2 =>
            simp only [RvL] at h2
            have hr := h2.1
            simp only [Rv] at hr
            subst hr
            obtain ⟨v, u, g1, g2, g3⟩ := minmax_ok (P := P) ilt Builtin.min2 (fun k x y w => by simp [Builtin.min2, ilt_eq]) l kd m us h2.2 h1
            exact ⟨v, u, g1, g2, fun w => by rw [hrun w]; simp [Go.builtin, Builtin.min_, g3 w]⟩
          | [], h2 => simp [RvL] at h2
        · cases h1
    · cases h
  | _ => rw [ho] at h; simp [opP] at h
end
end CX

/-
  CX: operations that read memory, write it, or make some, do what the executor says.
-/
namespace CX
open Go

/-! ### Memory, changed at one block -/

theorem HSat.sub {ρ : Nm} {g g' : Nat → Option O} {n : Nat} {w : World} (h : HSat ρ g n w) (hg : ∀ id o, g' id = some o → g id = some o) : HSat ρ g' n w :=
  ⟨fun id o ho => h.objs id o (hg id o ho), fun id o id' o' h1 h2 => h.sep id o id' o' (hg _ _ h1) (hg _ _ h2), h.dom, h.blk⟩

theorem HSat.world {ρ : Nm} {g : Nat → Option O} {n : Nat} {w w' : World} (h : HSat ρ g n w) (e : w'.heap = w.heap) : HSat ρ g n w' :=
  ⟨fun id o ho => ⟨(h.objs id o ho).1, ObjOk.ext (h.objs id o ho).1 (Nat.le_refl _) (fun _ _ _ h => h) (fun _ _ => by rw [e]) o (h.objs id o ho).2⟩, h.sep, h.dom, fun id L hl => by rw [e]; exact h.blk id L hl⟩

theorem HSat.upd {ρ ρ' : Nm} {g g' : Nat → Option O} {n n' : Nat} {w w' : World} (hS : HSat ρ g n w) {id0 : Nat} {o0 : O} {L0 : Loc} (hn : n ≤ n') (ha : agree n ρ ρ') (hid0 : id0 < n')
    (hL0 : ρ' id0 = some L0) (ho : ObjOk ρ' n' w' id0 o0) (hg0 : ∀ o, g' id0 = some o → o = o0) (hg : ∀ id o, g' id = some o → id ≠ id0 → g id = some o ∧ ∀ L, ρ id = some L → L.b ≠ L0.b)
    (hkeep : ∀ b, b < w.heap.size → b ≠ L0.b → w'.heap[b]? = w.heap[b]?) (hdom : ∀ id, n' ≤ id → ρ' id = none) (hblk : ∀ id L, ρ' id = some L → L.b < w'.heap.size) : HSat ρ' g' n' w' := by
  have keep : ∀ id o, g' id = some o → id ≠ id0 → id < n ∧ ObjOk ρ' n' w' id o := by
    intro id o h hne
    obtain ⟨h1, h2⟩ := hg id o h hne
    obtain ⟨h3, h4⟩ := hS.objs id o h1
    exact ⟨h3, ObjOk.ext h3 hn (fun i L hi hl => by rw [ha i hi]; exact hl) (fun L hL => hkeep L.b (hS.blk id L hL) (h2 L hL)) o h4⟩
  refine ⟨fun id o h => ?_, fun id o id' o' h h' hne L L' hL hL' => ?_, hdom, hblk⟩
  · by_cases hid : id = id0
    · subst hid
      rw [hg0 o h]
      exact ⟨hid0, ho⟩
    · obtain ⟨h1, h2⟩ := keep id o h hid
      exact ⟨by omega, h2⟩
  · by_cases h1 : id = id0
    · subst h1
      have h2 : id' ≠ id := Ne.symm hne
      obtain ⟨h3, h4⟩ := hg id' o' h' h2
      obtain ⟨h5, _⟩ := keep id' o' h' h2
      rw [hL0] at hL
      cases hL
      rw [ha id' h5] at hL'
      exact Ne.symm (h4 L' hL')
    · obtain ⟨h3, h4⟩ := hg id o h h1
      obtain ⟨h5, _⟩ := keep id o h h1
      rw [ha id h5] at hL
      by_cases h2 : id' = id0
      · subst h2
        rw [hL0] at hL'
        cases hL'
        exact h4 L hL
      · obtain ⟨h6, h7⟩ := hg id' o' h' h2
        obtain ⟨h8, _⟩ := keep id' o' h' h2
        rw [ha id' h8] at hL'
        exact hS.sep id o id' o' h3 h6 hne L L' hL hL'

theorem Fr.upd {ρ ρ' : Nm} {g g' : Nat → Option O} {n bar : Nat} {w w' : World} {B : Nat} {id0 : Nat} (hS : HSat ρ g n w) (ha : agree n ρ ρ') (hio : w'.os = w.os ∧ w'.tape = w.tape ∧ w'.output = w.output)
    (hsz : w.heap.size ≤ w'.heap.size) (hkeep : ∀ b, b < w.heap.size → b ≠ B → w'.heap[b]? = w.heap[b]?) (hB : Own ρ g bar B ∨ w.heap.size ≤ B)
    (hL0 : ∀ L, ρ' id0 = some L → L.b = B) (hg : ∀ id o, g' id = some o → id ≠ id0 → g id = some o) : Fr (Own ρ g bar) w (Own ρ' g' bar) w' := by
  refine ⟨hio.1, hio.2.1, hio.2.2, hsz, fun b hb hno => hkeep b hb fun e => ?_, ?_⟩
  · subst e
    rcases hB with h | h
    · exact hno h
    · omega
  · rintro b ⟨id, o, L, hbar, ho, hL, rfl⟩
    by_cases hid : id = id0
    · subst hid
      rw [hL0 L hL]
      exact hB
    · have h1 := hg id o ho hid
      have h2 := (hS.objs id o h1).1
      rw [ha id h2] at hL
      exact .inl ⟨id, o, L, hbar, h1, hL, rfl⟩

/-- What an operation comes to. -/
def MOk (ρ : Nm) (g : Nat → Option O) (n : Nat) (w : World) (bar : Nat) (res : Result Next) (v : V) (g' : Nat → Option O) (n' : Nat) : Prop :=
  ∃ nxt u ρ' w', res = .ok nxt w' ∧ (nxt = .value u ∨ (nxt = .skip ∧ u = undef)) ∧ Rv ρ' n' v u ∧ HSat ρ' g' n' w' ∧ agree n ρ ρ' ∧ n ≤ n' ∧ Fr (Own ρ g bar) w (Own ρ' g' bar) w'

/-- A name more. -/
def Nm.put (ρ : Nm) (id : Nat) (L : Loc) : Nm := fun i => if i = id then some L else ρ i
theorem put_same (ρ : Nm) (id : Nat) (L : Loc) : ρ.put id L id = some L := by simp [Nm.put]
theorem agree_put (ρ : Nm) (n : Nat) (L : Loc) : agree n ρ (ρ.put n L) := fun i hi => by simp [Nm.put, Nat.ne_of_lt hi]
theorem dom_put {ρ : Nm} {n : Nat} (h : ∀ id, n ≤ id → ρ id = none) (L : Loc) : ∀ id, n + 1 ≤ id → (ρ.put n L) id = none := fun id hid => by
  rw [Nm.put, if_neg (by omega)]; exact h id (by omega)

/-- A new object in a new block. -/
theorem HSat.new {ρ : Nm} {g g' : Nat → Option O} {n bar : Nat} {w w' : World} (hS : HSat ρ g n w) {ob : Obj} {o : O} {bs : Nat} (hw : w'.heap = w.heap.push ob) (hio : w'.os = w.os ∧ w'.tape = w.tape ∧ w'.output = w.output)
    (ho : ObjOk (ρ.put n ⟨w.heap.size, 0, bs⟩) (n + 1) w' n o) (hg : ∀ id, g' id = if id = n then some o else g id) :
    HSat (ρ.put n ⟨w.heap.size, 0, bs⟩) g' (n + 1) w' ∧ Fr (Own ρ g bar) w (Own (ρ.put n ⟨w.heap.size, 0, bs⟩) g' bar) w' := by
  have hkeep : ∀ b, b < w.heap.size → b ≠ w.heap.size → w'.heap[b]? = w.heap[b]? := fun b hb _ => by rw [hw, Array.getElem?_push, if_neg (by omega)]
  have hsz : w'.heap.size = w.heap.size + 1 := by rw [hw]; simp
  refine ⟨hS.upd (id0 := n) (o0 := o) (Nat.le_succ _) (agree_put _ _ _) (Nat.lt_succ_self _) (put_same _ _ _) ho (fun o' h => by rw [hg, if_pos rfl] at h; simpa using h.symm) (fun id o' h hne => ?_) hkeep (dom_put hS.dom _) (fun id L h => ?_),
    Fr.upd (id0 := n) hS (agree_put _ _ _) hio (by omega) hkeep (.inr (Nat.le_refl _)) (fun L h => by rw [put_same] at h; cases h; rfl) (fun id o' h hne => by rw [hg, if_neg hne] at h; exact h)⟩
  · rw [hg, if_neg hne] at h
    exact ⟨h, fun L hL => by have := hS.blk id L hL; show L.b ≠ w.heap.size; omega⟩
  · simp only [Nm.put] at h
    split at h
    · cases h; show w.heap.size < _; omega
    · have := hS.blk id L h; omega

theorem run_getMap {P : Program} {w : World} {r : Nat} {es : Array MapEntry} {c : Nat} (h : w.heap[r]? = some (.map es c)) : (getObj r).run P w = .ok (.map es c) w := by
  simp [getObj, Sem.run, h]

/-! ### Cells -/

theorem wrt_ok : ∀ (l : List V) (t : T V) (i : Nat) {k : T V → R} {r : Ex × St}, wrt t i l k = some r → ∃ t', k t' = some r ∧ ∀ j, t'.get j = if i ≤ j ∧ j < i + l.length then l[j - i]? else t.get j
  | [], t, i, k, r, h => ⟨t, h, fun j => by rw [if_neg (by simp)]⟩
  | v :: l, t, i, k, r, h => by
    simp only [wrt] at h
    rw [T.set_eq] at h
    obtain ⟨t', h1, h2⟩ := wrt_ok l _ (Nat.succ i) h
    refine ⟨t', h1, fun j => ?_⟩
    rw [h2, T.get_up]
    by_cases hj : j = i
    · subst hj
      rw [if_neg (by omega), if_pos rfl, if_pos (by simp)]
      simp
    · by_cases hj2 : Nat.succ i ≤ j ∧ j < Nat.succ i + l.length
      · rw [if_pos hj2, if_pos (by simp; omega), show j - i = (j - Nat.succ i) + 1 by omega]
        simp
      · rw [if_neg hj2, if_neg hj, if_neg (by simp; omega)]

theorem cell_at {w : World} {b : Nat} {cur : Array Value} {ty : TypeId} (h : w.heap[b]? = some (.cells cur ty (0, 0))) (i : Nat) : w.cell? ⟨b, i, none⟩ = cur[i]? := by
  simp [World.cell?, h]

theorem one1_cell {ρ : Nm} {n : Nat} {v : V} {u : Value} (h : Rv ρ n v u) (h1 : one1 v = true) : u.oneCell' = true := by
  cases v with
  | agg l => simp [one1] at h1
  | tup l => simp [one1] at h1
  | slc id es off ln c => cases c <;> simp only [Rv] at h
                          · obtain ⟨_, _, L, c, o, _, rfl, _⟩ := h; rfl
                          · obtain ⟨_, _, _, L, _, rfl⟩ := h; rfl
  | fn f a b => cases f <;> simp only [Rv] at h
                · obtain ⟨x, y, _, _, rfl⟩ := h; rfl
                · obtain ⟨_, L, x, y, _, _, _, rfl⟩ := h; rfl
  | int k x => simp only [Rv] at h; subst h; rfl
  | bool b => simp only [Rv] at h; subst h; rfl
  | str s => simp only [Rv] at h; obtain ⟨_, rfl⟩ := h; rfl
  | ptr id off => simp only [Rv] at h; obtain ⟨_, L, _, rfl⟩ := h; rfl
  | nilp => simp only [Rv] at h; subst h; rfl
  | nils => simp only [Rv] at h; subst h; rfl
  | map id => simp only [Rv] at h; obtain ⟨_, L, _, rfl⟩ := h; rfl
  | nilm => simp only [Rv] at h; subst h; rfl
  | nilf => simp only [Rv] at h; subst h; rfl
  | iface t v => simp only [Rv] at h; obtain ⟨x, _, rfl⟩ := h; rfl
  | nili => simp only [Rv] at h; subst h; rfl
  | raw x => simp only [Rv] at h; obtain ⟨rfl, h⟩ := h; exact h

/-- The cells that are there. -/
theorem cells_list {ρ : Nm} {g : Nat → Option O} {n : Nat} {w : World} (hS : HSat ρ g n w) {id m : Nat} {t : T V} (hg : g id = some (.cells t m)) {i c : Nat} (hle : i + c ≤ m) :
    ∃ l x L cur ty, l.length = c ∧ RvL ρ n l x ∧ (∀ v ∈ l, one1 v = true) ∧ ρ id = some L ∧ w.heap[L.b]? = some (.cells cur ty (0, 0)) ∧ cur.size = L.bs ∧ L.base + m ≤ L.bs ∧
      (∀ j, j < c → t.get (i + j) = l[j]?) ∧ (∀ j u, x[j]? = some u → cur[L.base + i + j]? = some u) ∧ (∀ j u, x[j]? = some u → w.cell? ((⟨L.b, L.base + i, none⟩ : Addr).add j) = some u) := by
  obtain ⟨_, ho⟩ := hS.objs id _ hg
  simp only [ObjOk] at ho
  obtain ⟨L, cur, ty, hL, hh, hsz, hbs, hcell⟩ := ho
  have key : ∀ (c i : Nat), i + c ≤ m → ∃ l x, l.length = c ∧ RvL ρ n l x ∧ (∀ v ∈ l, one1 v = true) ∧ (∀ j, j < c → t.get (i + j) = l[j]?) ∧ ∀ j u, x[j]? = some u → cur[L.base + i + j]? = some u := by
    intro c
    induction c with
    | zero => exact fun i _ => ⟨[], [], rfl, by simp [RvL], by simp, fun j h => by omega, fun j u h => by simp at h⟩
    | succ c ih =>
      intro i hle
      obtain ⟨l, x, hl, hx1, hx2, hx4, hx3⟩ := ih (i + 1) (by omega)
      obtain ⟨v, u, g1, g2, g3, g4⟩ := hcell i (by omega)
      refine ⟨v :: l, u :: x, by simp [hl], by simp only [RvL]; exact ⟨g4, hx1⟩, fun y hy => ?_, fun j hj => ?_, fun j u' hj => ?_⟩
      · rcases List.mem_cons.1 hy with rfl | hy
        · exact g2
        · exact hx2 y hy
      · cases j with
        | zero => exact g1
        | succ j => rw [show i + (j + 1) = i + 1 + j by omega, hx4 j (by omega)]; rfl
      · cases j with
        | zero => simp only [List.getElem?_cons_zero, Option.some.injEq] at hj; subst hj; exact g3
        | succ j => have := hx3 j u' (by simpa using hj); rw [show L.base + i + (j + 1) = L.base + (i + 1) + j by omega]; exact this
  obtain ⟨l, x, hl, hx1, hx2, hx4, hx3⟩ := key c i hle
  exact ⟨l, x, L, cur, ty, hl, hx1, hx2, hL, hh, hsz, hbs, hx4, hx3, fun j u hj => by rw [add_at, cell_at hh]; exact hx3 j u hj⟩

theorem rd_eq {t : T V} : ∀ (l : List V) (i : Nat) (k : List V → R), (∀ j, j < l.length → t.get (i + j) = l[j]?) → rd t i l.length k = k l
  | [], i, k, _ => rfl
  | v :: l, i, k, h => by
    have h0 := h 0 (by simp)
    simp only [Nat.add_zero, List.getElem?_cons_zero] at h0
    simp only [List.length_cons, rd, h0]
    rw [rd_eq l (Nat.succ i) _ (fun j hj => by rw [show Nat.succ i + j = i + (j + 1) by omega, h (j + 1) (by simpa using hj)]; rfl)]

/-- Cells are read. -/
theorem cells_read {ρ : Nm} {g : Nat → Option O} {n : Nat} {w : World} (hS : HSat ρ g n w) {id m : Nat} {t : T V} (hg : g id = some (.cells t m)) {i c : Nat} (hle : i + c ≤ m) {k : List V → R} {r : Ex × St} (h : rd t i c k = some r) :
    ∃ l x L cur ty, k l = some r ∧ l.length = c ∧ RvL ρ n l x ∧ (∀ v ∈ l, one1 v = true) ∧ ρ id = some L ∧ w.heap[L.b]? = some (.cells cur ty (0, 0)) ∧ cur.size = L.bs ∧ L.base + m ≤ L.bs ∧
      (∀ j u, x[j]? = some u → cur[L.base + i + j]? = some u) ∧ (∀ j u, x[j]? = some u → w.cell? ((⟨L.b, L.base + i, none⟩ : Addr).add j) = some u) := by
  obtain ⟨l, x, L, cur, ty, h1, h2, h3, h4, h5, h6, h7, h8, h9, h10⟩ := cells_list hS hg hle
  subst h1
  rw [rd_eq l i k h8] at h
  exact ⟨l, x, L, cur, ty, h, rfl, h2, h3, h4, h5, h6, h7, h9, h10⟩

section
variable {P : Program} {E : Env} (hE : EnvOk E P) {ρ : Nm} {n : Nat}
include hE

theorem run_loadVar {t : Nat} {ty : Ty} (hty : E.T t = some ty) (w : World) (a : Addr) {l : List V} {x : List Value} (hl : RvL ρ n l x) (hlen : l.length = ty.size) (hc : ∀ j u, x[j]? = some u → w.cell? (a.add j) = some u)
    {k : V → R} {r : Ex × St} (h : packR ty.agg l k = some r) : ∃ v u, k v = some r ∧ Rv ρ n v u ∧ (loadVar t a).run P w = .ok u w := by
  obtain ⟨i, z, hi, hs, _⟩ := (hE.T _ _ hty).info
  obtain ⟨d, hd, hag, _⟩ := (hE.T _ _ hty).und
  have hxl := hl.length
  obtain ⟨v, u, h1, h2, h3, h4⟩ := packR_ok hl h
  refine ⟨v, u, h1, h2, ?_⟩
  cases ha : ty.agg with
  | true =>
    rw [h3 ha]
    simp only [loadVar, Sem.run_bind, run_isAgg' hd, Result.andThen_ok, hag, ha, if_true, run_sizeOf' hi, hs, ← hlen, ← hxl, run_loadCells_list w a x hc, Sem.run_pure]
  | false =>
    obtain ⟨h5, _⟩ := h4 ha
    have h0 := hc 0 u (by rw [h5]; rfl)
    have : a.add 0 = a := by simp [Addr.add]
    rw [this] at h0
    simp only [loadVar, Sem.run_bind, run_isAgg' hd, Result.andThen_ok, hag, ha, Bool.false_eq_true, if_false, run_load]
    simp [h0]

omit hE in
/-- The first elements of a slice. -/
theorem cellsOf_ok {g : T O} {w : World} (hS : HSat ρ g.get n w) {es m : Nat} {y : V} {u : Value} (hy : Rv ρ n y u) {k : List V → R} {r : Ex × St} (h : cellsOf g es m y k = some r) :
    ∃ l x, k l = some r ∧ RvL ρ n l x ∧ (∀ v ∈ l, one1 v = true) ∧ l.length = m * es ∧
      ((m = 0 ∧ l = []) ∨ ∃ id off ln cap L off' c, y = .slc id es off ln cap ∧ ρ id = some L ∧ u = .slice (some ⟨L.b, off', none⟩) ln c ∧ (ln ≠ 0 → off' = L.base + off) ∧ (∀ j u, x[j]? = some u → w.cell? ((⟨L.b, L.base + off, none⟩ : Addr).add j) = some u)) := by
  unfold cellsOf at h
  split at h
  · split at h
    · exact ⟨[], [], h, by simp [RvL], by simp, by simp, .inl ⟨rfl, rfl⟩⟩
    · cases h
  · rename_i id es' off ln cap
    split at h
    · rename_i hes
      have hes := Nat.eq_of_beq_eq_true hes
      subst hes
      split at h
      · exact ⟨[], [], h, by simp [RvL], by simp, by simp, .inl ⟨rfl, rfl⟩⟩
      · split at h
        · rename_i c cells hg
          split at h
          · rename_i hle
            have hle : off + m * es ≤ cells := by simpa using hle
            obtain ⟨l, x, L, cur, ty, h1, h2, h3, h4, h5, h6, h7, h8, h9, h10⟩ := cells_read hS hg hle h
            refine ⟨l, x, h1, h3, h4, h2, .inr ?_⟩
            cases cap with
            | none =>
              simp only [Rv] at hy
              obtain ⟨_, _, L', c', o', hL', hu, hln, _, ho⟩ := hy
              rw [h5] at hL'; cases hL'
              exact ⟨id, off, ln, none, L, o', c', rfl, h5, hu, fun h0 => by rcases ho with ho | ho; exact ho; omega, h10⟩
            | some cc =>
              simp only [Rv] at hy
              obtain ⟨_, _, _, L', hL', hu⟩ := hy
              rw [h5] at hL'; cases hL'
              exact ⟨id, off, ln, some cc, L, _, cc, rfl, h5, hu, fun _ => rfl, h10⟩
          · cases h
        · cases h
    · cases h
  · cases h

omit hE in
theorem strCells_ok : ∀ (l : List V) (x : List Value) {k : List Nat → R} {r : Ex × St}, RvL ρ n l x → strCells l k = some r → (∃ s, k s = some r ∧ (∀ b ∈ s, b < 256) ∧ x = s.map (fun (b : Nat) => Value.int .u8 (b : Int)))
  | [], [], k, r, _, h => ⟨[], h, by simp, rfl⟩
  | v :: l, u :: x, k, r, hr, h => by
    simp only [RvL] at hr
    unfold strCells at h
    split at h
    · rename_i heq; cases heq
    · rename_i b l' heq
      simp only [List.cons.injEq] at heq
      obtain ⟨rfl, rfl⟩ := heq
      split at h
      · rename_i hb
        rw [Nat.blt_eq] at hb
        obtain ⟨s, h1, h3, h2⟩ := strCells_ok l x hr.2 h
        have := hr.1
        simp only [Rv] at this
        exact ⟨b :: s, h1, fun y hy => by rcases List.mem_cons.1 hy with rfl | hy; exact hb; exact h3 y hy, by rw [this, h2]; rfl⟩
      · cases h
    · cases h
  | [], _ :: _, _, _, h, _ => by simp [RvL] at h
  | _ :: _, [], _, _, h, _ => by simp [RvL] at h

omit hE in
theorem same_now {kind : TypeDesc} {kd : TK} (hkd : KdOk P kd kind) {key : V} {ku : Value} (hkv : keyV kd key = true) (hkey : Rv ρ n key ku) {k : V} {eu : Value} (hk : Rv ρ n k eu) {c : Bool} (hc : eq1 k key = some c) :
    Instr.sameNow kind ku eu = some c := by
  unfold keyV at hkv
  split at hkv
  · rename_i ik k2 a2
    simp only [KdOk] at hkd
    subst hkd
    cases k <;> simp only [eq1] at hc <;> try cases hc
    rename_i k1 a
    simp only [Rv] at hk hkey
    split at hc
    · rename_i hkk
      have := kindEq_ok hkk
      subst this
      simp only [Option.some.injEq, ieq_eq] at hc
      rw [hk, hkey, ← hc]
      simp only [Instr.sameNow, if_true, Option.some.injEq]
      rw [Bool.eq_iff_iff, beq_iff_eq, beq_iff_eq]
      exact eq_comm
    · cases hc
  · rename_i a2
    simp only [KdOk] at hkd
    subst hkd
    cases k <;> simp only [eq1] at hc <;> try cases hc
    rename_i a
    simp only [Rv] at hk hkey
    obtain ⟨h1, rfl⟩ := hk
    obtain ⟨h2, rfl⟩ := hkey
    simp only [Instr.sameNow, Option.some.injEq]
    have : ((bytesOf a2) == (bytesOf a)) = lEq a2 a := by rw [beq_toListBytes]; exact beq_bytes h2 h1
    rw [this, Bool.eq_iff_iff, lEq_iff, lEq_iff]
    exact eq_comm
  · rename_i a2
    simp only [KdOk] at hkd
    subst hkd
    cases k <;> simp only [eq1] at hc <;> try cases hc
    rename_i a
    simp only [Rv] at hk hkey
    subst hk hkey
    cases a <;> cases a2 <;> simp_all [Instr.sameNow]
  · cases hkv

omit hE in
theorem findK_ok {kind : TypeDesc} {kd : TK} (hkd : KdOk P kd kind) {key : V} {ku : Value} (hkv : keyV kd key = true) (hkey : Rv ρ n key ku) :
    ∀ (l : List (V × V × Nat)) (es : List MapEntry) (i : Nat) (q : Option V), RvM ρ n l es → findK key l = some q →
      (q = none ∧ Instr.findNow kind ku es i = some none) ∨ ∃ v j u, q = some v ∧ Rv ρ n v u ∧ Instr.findNow kind ku es i = some (some (j, u))
  | [], [], i, q, _, h => by
    simp only [findK, Option.some.injEq] at h
    exact .inl ⟨h.symm, rfl⟩
  | (k, v, b) :: l, e :: es, i, q, hr, h => by
    simp only [RvM] at hr
    simp only [findK] at h
    split at h
    · rename_i hc
      simp only [Option.some.injEq] at h
      exact .inr ⟨v, i, e.val, h.symm, hr.2.1, by simp only [Instr.findNow, same_now hkd hkv hkey hr.1 hc]⟩
    · rename_i hc
      simp only [Instr.findNow, same_now hkd hkv hkey hr.1 hc]
      exact findK_ok hkd hkv hkey l es (i + 1) q hr.2.2.2 h
    · cases h
  | [], _ :: _, _, _, h, _ => by simp [RvM] at h
  | _ :: _, [], _, _, h, _ => by simp [RvM] at h

omit hE in
theorem run_checkKey {kt : Nat} {kind : TypeDesc} (hu : P.underlying kt = some kind) {kd : TK} (hkd : KdOk P kd kind) {key : V} {ku : Value} (hkv : keyV kd key = true) (emp : Bool) (m : Nat) (w : World) :
    (Instr.checkKey emp (m + 1) kt ku).run P w = .ok () w := by
  unfold keyV at hkv
  split at hkv <;> (try cases hkv) <;> simp only [KdOk] at hkd <;> subst hkd <;> simp [Instr.checkKey, run_underlying hu]

/-- **What reads memory.** -/
theorem opL_ok {g : T O} {w : World} (hS : HSat ρ g.get n w) {o : Oper} {ev : Operand → Option V} {ρe : Operand → Value} (hev : ∀ x ∈ o.op.operands, ∀ v, ev x = some v → Rv ρ n v (ρe x)) (hcls : clsOf E o.op = 1)
    {k : V → R} {r : Ex × St} (h : opL E g ev o.op k = some r) : ∃ v u, k v = some r ∧ Rv ρ n v u ∧ (execOp ρe o).run P w = .ok (.value u) w := by
  cases ho : o.op with
  | load t x =>
    rw [ho] at h hev
    simp only [opL] at h
    split at h
    · rename_i ty id off hty hx
      have hr := hev x (by simp [Op.operands]) _ hx
      simp only [Rv] at hr
      obtain ⟨hid, L, hL, hu⟩ := hr
      split at h
      · rename_i c m hg
        split at h
        · rename_i hle
          have hle : off + ty.size ≤ m := by simpa using hle
          obtain ⟨l, xs, L', cur, tt, h1, h2, h3, h4, h5, h6, h7, h8, h9, h10⟩ := cells_read hS hg hle h
          rw [hL] at h5; cases h5
          obtain ⟨v, u, g1, g2, g3⟩ := run_loadVar hE hty w ⟨L.b, L.base + off, none⟩ h3 h2 h10 h1
          exact ⟨v, u, g1, g2, by simp [execOp, ho, hu, Instr.loadAt, Instr.sureAddr, g3]⟩
        · cases h
      · cases h
    · cases h
  | lookup t x i ok =>
    rw [ho] at h hev
    simp only [opL] at h
    split at h
    · rename_i kt e mv key hk hx hi
      obtain ⟨d, hd, hkd⟩ := und_of hE hk (by simp)
      simp only [KdOk] at hkd
      subst hkd
      have hrx := hev x (by simp [Op.operands]) _ hx
      have hri := hev i (by simp [Op.operands]) _ hi
      split at h
      · rename_i ety hety hkv
        obtain ⟨j, z, hj, hjs, _, hz, hzr, hza, hzb⟩ := (hE.T _ _ hety).info
        obtain ⟨kind, hkind, hkdk⟩ : ∃ kind, P.underlying kt = some kind ∧ KdOk P (kindOf E kt) kind := by
          refine und_of hE rfl fun h0 => ?_
          rw [h0] at hkv
          simp [keyV] at hkv
        obtain ⟨zv, zu, h1, h2, h3, h4⟩ := packR_ok (hzr ρ n) h
        obtain ⟨dz, hdz, hagz, _⟩ := (hE.T _ _ hety).und
        have hzv : z = zu := by
          cases ha : ety.agg with
          | true => rw [h3 ha, hza ha]; simp [Value.cells]
          | false =>
            have := (h4 ha).1
            rw [hzb ha] at this
            simpa using this
        have hzz : (zeroValue e).run P w = .ok zu w := by rw [← hzv]; exact run_zeroValue' hj hz w
        have hck : ∀ emp, (Instr.checkKey emp 10000 kt (ρe i)).run P w = .ok () w := fun emp => run_checkKey hkind hkdk hkv emp 9999 w
        split at h1
        · simp only [Rv] at hrx
          have hrun : (execOp ρe o).run P w = .ok (.value (if ok then .tuple #[zu, .bool false] else zu)) w := by
            simp [execOp, ho, hrx, Instr.lookup, run_underlying hd, hck, Instr.findKey, run_underlying hkind, Instr.findNow, hzz]
          cases ok
          · exact ⟨_, zu, h1, h2, by simpa using hrun⟩
          · exact ⟨_, .tuple #[zu, .bool false], h1, by simp only [Rv]; exact ⟨[zu, .bool false], by simp only [RvL, Rv]; exact ⟨h2, trivial, trivial⟩, rfl⟩, by simpa using hrun⟩
        · rename_i id
          simp only [Rv] at hrx
          obtain ⟨hid, L, hL, hu⟩ := hrx
          split at h1
          · rename_i l c hg
            obtain ⟨_, hobj⟩ := hS.objs id _ hg
            simp only [ObjOk] at hobj
            obtain ⟨L', es, hL', hh, hm⟩ := hobj
            rw [hL] at hL'; cases hL'
            have hget := run_getMap (P := P) hh
            split at h1
            · rename_i v hf
              rcases findK_ok hkdk hkv hri l es.toList 0 _ hm hf with ⟨h0, _⟩ | ⟨v', jj, u, hv', hru, hfn⟩
              · cases h0
              · cases hv'
                have hrun : (execOp ρe o).run P w = .ok (.value (if ok then .tuple #[u, .bool true] else u)) w := by
                  simp [execOp, ho, hu, Instr.lookup, run_underlying hd, hget, hck, Instr.findKey, run_underlying hkind, hfn]
                cases ok
                · exact ⟨_, u, h1, hru, by simpa using hrun⟩
                · exact ⟨_, .tuple #[u, .bool true], h1, by simp only [Rv]; exact ⟨[u, .bool true], by simp only [RvL, Rv]; exact ⟨hru, trivial, trivial⟩, rfl⟩, by simpa using hrun⟩
            · rename_i hf
              rcases findK_ok hkdk hkv hri l es.toList 0 _ hm hf with ⟨_, hfn⟩ | ⟨v', jj, u, hv', _⟩
              · have hrun : (execOp ρe o).run P w = .ok (.value (if ok then .tuple #[zu, .bool false] else zu)) w := by
                  simp [execOp, ho, hu, Instr.lookup, run_underlying hd, hget, hck, Instr.findKey, run_underlying hkind, hfn, hzz]
                cases ok
                · exact ⟨_, zu, h1, h2, by simpa using hrun⟩
                · exact ⟨_, .tuple #[zu, .bool false], h1, by simp only [Rv]; exact ⟨[zu, .bool false], by simp only [RvL, Rv]; exact ⟨h2, trivial, trivial⟩, rfl⟩, by simpa using hrun⟩
              · cases hv'
            · cases h1
          · cases h1
        · cases h1
      · cases h
    · cases h
  | convert s t x =>
    rw [ho] at h hev hcls
    have hkt : kindOf E t = .str := by
      simp only [clsOf] at hcls
      split at hcls
      · rename_i hk _; exact hk
      · cases hcls
    obtain ⟨dt, hdt, hkdt⟩ := und_of hE hkt (by simp)
    simp only [KdOk] at hkdt
    subst hkdt
    simp only [opL] at h
    split at h
    · rename_i e hes hks
      obtain ⟨d, hd, hkd⟩ := und_of hE hks (by simp)
      simp only [KdOk] at hkd
      subst hkd
      split at h
      · rename_i hke
        obtain ⟨de, hde, hkde⟩ := und_of hE hke (by simp)
        simp only [KdOk] at hkde
        subst hkde
        split at h
        · rename_i hx
          have hr := hev x (by simp [Op.operands]) _ hx
          simp only [Rv] at hr
          refine ⟨_, .string .empty, h, by simp only [Rv]; exact ⟨by simp, rfl⟩, ?_⟩
          simp [execOp, ho, hr, convert, run_underlying hd, run_underlying hdt, run_underlying hde, Conv.bytesToString]
        · rename_i id es off ln cap hx
          have hr := hev x (by simp [Op.operands]) _ hx
          obtain ⟨l, xs, h1, h2, h3, h4, h5⟩ := cellsOf_ok hS hr h
          obtain ⟨s', g1, g3, g2⟩ := strCells_ok l xs h2 h1
          have hxl := h2.length
          refine ⟨_, .string (bytesOf s'), g1, by simp only [Rv]; exact ⟨g3, trivial⟩, ?_⟩
          have hfold : ∀ (s : List Nat) (a : ByteArray), (s.map fun (b : Nat) => (b : Int)).foldl (fun r n => r.push (UInt8.ofNat n.toNat)) a = ⟨(a.data.toList ++ s.map UInt8.ofNat).toArray⟩ := by
            intro s
            induction s with
            | nil => intro a; simp
            | cons b s ih => intro a; rw [List.map_cons, List.foldl_cons, ih]; simp [ByteArray.push]
          have hsl : ∃ a c, ρe x = .slice (some a) ln c ∧ (loadCells a ln).run P w = .ok ((s'.map fun (b : Nat) => (b : Int)).map (Value.int .u8)).toArray w := by
            have hmap : (s'.map fun (b : Nat) => (b : Int)).map (Value.int .u8) = xs := by rw [g2, List.map_map]; rfl
            rw [hmap]
            rcases h5 with ⟨h0, hnil⟩ | ⟨id', off', ln', cap', L, o', c, heq, hL, hu, ho', hcell⟩
            · subst h0
              have hx0 : xs = [] := by rw [hnil] at hxl; exact List.length_eq_zero_iff.1 hxl
              have : ∃ a c, ρe x = .slice (some a) 0 c := by
                cases cap with
                | none => simp only [Rv] at hr; obtain ⟨_, _, L, c, o, _, hu, _⟩ := hr; exact ⟨_, _, hu⟩
                | some c => simp only [Rv] at hr; obtain ⟨_, _, _, L, _, hu⟩ := hr; exact ⟨_, _, hu⟩
              obtain ⟨a, c, hu⟩ := this
              exact ⟨a, c, hu, by rw [hx0]; simp [loadCells, loadCellsFrom]⟩
            · cases heq
              have hlen : ln = xs.length := by rw [hxl, h4, Nat.mul_one]
              by_cases h0 : ln = 0
              · have hx0 : xs = [] := List.length_eq_zero_iff.1 (by omega)
                exact ⟨_, c, hu, by rw [hx0, h0]; simp [loadCells, loadCellsFrom]⟩
              · refine ⟨_, c, hu, ?_⟩
                rw [hlen, ho' h0]
                exact run_loadCells_list w _ xs hcell
          obtain ⟨a, c, hu, hload⟩ := hsl
          have := run_bytesToString (P := P) w a ln c _ hload
          rw [hfold] at this
          have hb : (⟨(ByteArray.empty.data.toList ++ s'.map UInt8.ofNat).toArray⟩ : ByteArray) = bytesOf s' := rfl
          rw [hb] at this
          simp [execOp, ho, hu, convert, run_underlying hd, run_underlying hdt, run_underlying hde, this]
        · cases h
      · cases h
    · cases h
  | call c =>
    rw [ho] at h hev hcls
    simp only [opL] at h
    simp only [clsOf] at hcls
    split at hcls
    · cases hcls
    · rename_i b hc
      split at hcls <;> try cases hcls
      split at hcls
      · rename_i t hts
        split at hcls
        · rename_i kt e hk
          obtain ⟨d, hd, hkd⟩ := und_of hE hk (by simp)
          simp only [KdOk] at hkd
          subst hkd
          have hat : c.argTypes = #[t] := by apply Array.ext'; simpa using hts
          obtain ⟨cs, hrun⟩ := run_builtin (P := P) ho hc ρe
          obtain ⟨vs, h1, h2⟩ := evL_ok (ρ := ρ) (n := n) (ρe := ρe) c.args.toList (fun x hx => hev x (by simp only [Op.operands, Call.operands, hc, Array.mem_append]; exact .inr (by simpa using hx))) h
          have hargs : c.args.map ρe = (c.args.toList.map ρe).toArray := by apply Array.ext'; simp
          generalize c.args.toList.map ρe = us at h2 hargs
          rw [hargs] at hrun
          split at h1
          · match us, h2 with
            | [u], h2 =>
              simp only [RvL, Rv] at h2
              obtain ⟨rfl, _⟩ := h2
              exact ⟨_, .int .i64 0, h1, by simp only [Rv], by rw [hrun w]; simp [Go.builtin, Builtin.len_, hat, run_underlying hd, goInt]⟩
            | [], h2 => simp [RvL] at h2
            | _ :: _ :: _, h2 => simp [RvL] at h2
          · rename_i id
            match us, h2 with
            | [u], h2 =>
              simp only [RvL, Rv] at h2
              obtain ⟨⟨hid, L, hL, rfl⟩, _⟩ := h2
              split at h1
              · rename_i l cl hg
                obtain ⟨_, hobj⟩ := hS.objs id _ hg
                simp only [ObjOk] at hobj
                obtain ⟨L', es, hL', hh, hm⟩ := hobj
                rw [hL] at hL'; cases hL'
                rw [fN_eq] at h1
                have hlen : ∀ (l : List (V × V × Nat)) (es : List MapEntry), RvM ρ n l es → mlen l = es.length := by
                  intro l
                  induction l with
                  | nil => intro es h; cases es with
                    | nil => rfl
                    | cons _ _ => simp [RvM] at h
                  | cons x l ih => intro es h; cases es with
                    | nil => simp [RvM] at h
                    | cons e es => simp only [RvM] at h; simp [mlen, ih es h.2.2.2]
                have hl := hlen l es.toList hm
                refine ⟨_, .int .i64 (Int.ofNat (mlen l)), h1, by simp only [Rv], ?_⟩
                rw [hrun w]
                simp [Go.builtin, Builtin.len_, hat, run_underlying hd, run_getMap hh, goInt, hl]
              · cases h1
            | [], h2 => simp [RvL] at h2
            | _ :: _ :: _, h2 => simp [RvL] at h2
          · cases h1
        · cases hcls
      · cases hcls
    · cases hcls
  | _ => rw [ho] at h; simp [opL] at h
end
end CX

/-
  CX: operations that write memory, or make some, do what the executor says.
-/
namespace CX
open Go

section
variable {P : Program} {E : Env} {ρ : Nm} {n bar : Nat}

theorem newRow_ok {g : T O} {w : World} (hS : HSat ρ g.get n w) {l : List V} {x : List Value} (hl : RvL ρ n l x) {k : T O → Nat → R} {r : Ex × St} (h : newRow g n l k = some r) {w' : World} {ty : TypeId} {slack : List Value}
    (hw : w'.heap = w.heap.push (.cells (x ++ slack).toArray ty)) (hio : w'.os = w.os ∧ w'.tape = w.tape ∧ w'.output = w.output) :
    ∃ g', k g' (n + 1) = some r ∧ HSat (ρ.put n ⟨w.heap.size, 0, (x ++ slack).length⟩) g'.get (n + 1) w' ∧ Fr (Own ρ g.get bar) w (Own (ρ.put n ⟨w.heap.size, 0, (x ++ slack).length⟩) g'.get bar) w' := by
  unfold newRow at h
  split at h
  · rename_i hone
    have hone := (oneAll_iff _).1 hone
    obtain ⟨t, h1, ht⟩ := wrt_ok l .e 0 h
    rw [fN_eq, new, T.set_eq] at h1
    refine ⟨_, h1, HSat.new (o := .cells t (len l)) hS hw hio ?_ (fun id => T.get_up _ _ _ _)⟩
    simp only [ObjOk]
    have hxl := hl.length
    refine ⟨_, (x ++ slack).toArray, ty, put_same _ _ _, by rw [hw]; simp, by simp, by simp [len_eq, hxl], fun i hi => ?_⟩
    rw [len_eq] at hi
    obtain ⟨u, hu, hr⟩ := hl.get i l[i] (List.getElem?_eq_getElem hi)
    refine ⟨l[i], u, ?_, hone _ (List.getElem_mem hi), ?_, hr.ag (Nat.le_succ _) (agree_put _ _ _)⟩
    · rw [ht, if_pos (by omega), Nat.sub_zero]; exact List.getElem?_eq_getElem hi
    · rw [Nat.zero_add, List.getElem?_toArray, List.getElem?_append_left (by omega)]; exact hu
  · cases h

theorem store_ok {g : T O} {w : World} (hS : HSat ρ g.get n w) {id off : Nat} {l : List V} {x : List Value} (hl : RvL ρ n l x) {L : Loc} (hL : ρ id = some L) {k : T O → R} {r : Ex × St} (h : store bar g id off l k = some r) :
    ∃ g' w', k g' = some r ∧ HSat ρ g'.get n w' ∧ Fr (Own ρ g.get bar) w (Own ρ g'.get bar) w' ∧ (storeCells ⟨L.b, L.base + off, none⟩ x).run P w = .ok () w' ∧ (∀ i o, g'.get i = some o → ∃ o', g.get i = some o') ∧
      ∃ t m cur ty, g.get id = some (.cells t m) ∧ off + l.length ≤ m ∧ L.base + m ≤ L.bs ∧ w.heap[L.b]? = some (.cells cur ty (0, 0)) ∧ cur.size = L.bs ∧ (∀ v ∈ x, v.oneCell' = true) ∧ w' = w.setRow L.b (cur.toList.take (L.base + off) ++ x ++ cur.toList.drop (L.base + off + x.length)).toArray := by
  unfold store at h
  split at h
  · rename_i t m hg hbar hone
    have hone := (oneAll_iff _).1 hone
    have hbar : bar ≤ id := by simpa [geB] using hbar
    split at h
    · rename_i hle
      rw [len_eq] at hle
      have hle : off + l.length ≤ m := by simpa using hle
      obtain ⟨t', h1, ht⟩ := wrt_ok l t off h
      rw [T.set_eq] at h1
      obtain ⟨hid, ho⟩ := hS.objs id _ hg
      simp only [ObjOk] at ho
      obtain ⟨L', cur, ty, hL', hh, hsz, hbs, hcell⟩ := ho
      rw [hL] at hL'; cases hL'
      have hxl := hl.length
      have hx1 : ∀ v ∈ x, v.oneCell' = true := by
        intro v hv
        obtain ⟨i, hi, rfl⟩ := List.getElem_of_mem hv
        have hi' : i < l.length := by omega
        obtain ⟨u, hu, hr⟩ := hl.get i l[i] (List.getElem?_eq_getElem hi')
        rw [List.getElem?_eq_getElem hi] at hu
        cases hu
        exact one1_cell hr (hone _ (List.getElem_mem hi'))
      have hrun := run_storeCells_at P L.b (L.base + off) ty x 0 cur w hh (by omega) hx1
      simp only [Nat.add_zero] at hrun
      generalize hnew : (cur.toList.take (L.base + off) ++ x ++ cur.toList.drop (L.base + off + x.length)).toArray = new at hrun
      have hnsz : new.size = cur.size := by rw [← hnew]; simp; omega
      have hget : ∀ i, new[L.base + i]? = if off ≤ i ∧ i < off + x.length then x[i - off]? else cur[L.base + i]? := by
        intro i
        rw [← hnew, List.getElem?_toArray, List.append_assoc, List.getElem?_append, List.getElem?_append]
        simp only [List.length_take, Array.length_toList]
        rw [Nat.min_eq_left (by omega)]
        by_cases c1 : i < off
        · rw [if_pos (by omega), if_neg (by omega), List.getElem?_take, if_pos (by omega)]; simp
        · rw [if_neg (by omega)]
          by_cases c2 : i < off + x.length
          · rw [if_pos (by omega), if_pos (by omega), show L.base + i - (L.base + off) = i - off by omega]
          · rw [if_neg (by omega), if_neg (by omega), List.getElem?_drop]
            simp only [Array.getElem?_toList]
            congr 1; omega
      have hkeep : ∀ b, b < w.heap.size → b ≠ L.b → (w.setRow L.b new).heap[b]? = w.heap[b]? := fun b _ hb => setRow_other w L.b b new hb
      refine ⟨_, _, h1, ?_, ?_, hrun, ?_, t, m, cur, ty, hg, hle, hbs, hh, hsz, hx1, by rw [hnew]⟩
      · refine hS.upd (id0 := id) (o0 := .cells t' m) (Nat.le_refl _) (agree.refl _ _) hid hL ?_ (fun o h => ?_) (fun i o h hne => ?_) hkeep hS.dom (fun i L h => by rw [setRow_size]; exact hS.blk i L h)
        · simp only [ObjOk]
          refine ⟨L, new, ty, hL, setRow_heap w L.b cur new ty (0, 0) hh, by rw [hnsz, hsz], hbs, fun i hi => ?_⟩
          rw [ht, hget]
          by_cases hc : off ≤ i ∧ i < off + l.length
          · rw [if_pos hc, if_pos (by omega)]
            obtain ⟨u, hu, hr⟩ := hl.get (i - off) l[i - off] (List.getElem?_eq_getElem (by omega))
            exact ⟨_, u, List.getElem?_eq_getElem (by omega), hone _ (List.getElem_mem (by omega)), hu, hr⟩
          · rw [if_neg hc, if_neg (by omega)]
            exact hcell i hi
        · rw [T.get_up, if_pos rfl] at h
          simpa using h.symm
        · rw [T.get_up, if_neg hne] at h
          exact ⟨h, fun L' hL' => hS.sep i o id _ h hg hne L' L hL' hL⟩
      · exact Fr.upd (id0 := id) (B := L.b) hS (agree.refl _ _) ⟨rfl, rfl, rfl⟩ (by simp) hkeep (.inl ⟨id, _, L, hbar, hg, hL, rfl⟩) (fun L' h => by rw [hL] at h; cases h; rfl)
          (fun i o h hne => by rw [T.get_up, if_neg hne] at h; exact h)
      · intro i o h
        rw [T.get_up] at h
        split at h
        · rename_i he; exact ⟨_, by rw [he]; exact hg⟩
        · exact ⟨o, h⟩
    · cases h
  · cases h

theorem rep_len (l : List V) : ∀ m, (rep m l).length = m * l.length
  | 0 => by simp [rep]
  | m + 1 => by simp [rep, rep_len l m, Nat.add_mul, Nat.add_comm]
theorem rep_mem {l : List V} {p : V → Prop} (h : ∀ x ∈ l, p x) : ∀ m, ∀ x ∈ rep m l, p x
  | 0, x, hx => by simp [rep] at hx
  | m + 1, x, hx => by
    simp only [rep, List.mem_append] at hx
    rcases hx with hx | hx
    · exact h x hx
    · exact rep_mem h m x hx
def repV : Nat → List Value → List Value
  | 0, _ => []
  | n + 1, l => l ++ repV n l
theorem rep_rel {l : List V} {x : List Value} (h : RvL ρ n l x) : ∀ m, RvL ρ n (rep m l) (repV m x)
  | 0 => by simp [rep, repV, RvL]
  | m + 1 => by simp only [rep, repV]; exact h.append (rep_rel h m)
theorem repV_get (l : List Value) (hl : 0 < l.length) : ∀ (m i : Nat), i < m * l.length → (repV m l)[i]? = l[i % l.length]?
  | 0, i, h => by omega
  | m + 1, i, h => by
    simp only [repV]
    rw [List.getElem?_append]
    split
    · rename_i hi; rw [Nat.mod_eq_of_lt hi]
    · rename_i hi
      rw [repV_get l hl m (i - l.length) (by rw [Nat.add_mul] at h; omega)]
      congr 1
      have h2 : i = (i - l.length) + l.length := by omega
      rw [h2, Nat.add_mod_right]
      congr 1; omega
theorem repV_len (l : List Value) : ∀ m, (repV m l).length = m * l.length
  | 0 => by simp [repV]
  | m + 1 => by simp [repV, repV_len l m, Nat.add_mul, Nat.add_comm]
theorem zeroCells_eq (z : Array Value) (hz : 0 < z.size) (m : Nat) : (Builtin.zeroCells z m).toList = repV m z.toList := by
  apply List.ext_getElem?
  intro i
  by_cases hi : i < m * z.size
  · rw [repV_get _ (by simpa using hz) _ _ (by simpa using hi)]
    simp [Builtin.zeroCells, hi]
    rw [getElem!_pos z _ (Nat.mod_lt _ hz), Array.getElem?_eq_getElem (Nat.mod_lt _ hz)]
  · rw [List.getElem?_eq_none (by simp [Builtin.zeroCells]; omega), List.getElem?_eq_none (by rw [repV_len]; simpa using hi)]

/-! ### append -/

theorem over_get (cur : Array Value) (p : Nat) (x : List Value) (h : p + x.length ≤ cur.size) (i : Nat) :
    (cur.toList.take p ++ x ++ cur.toList.drop (p + x.length)).toArray[i]? = if p ≤ i ∧ i < p + x.length then x[i - p]? else cur[i]? := by
  rw [List.getElem?_toArray, List.append_assoc, List.getElem?_append, List.getElem?_append]
  simp only [List.length_take, Array.length_toList]
  rw [Nat.min_eq_left (by omega)]
  by_cases c1 : i < p
  · rw [if_pos (by omega), if_neg (by omega), List.getElem?_take, if_pos (by omega)]; simp
  · rw [if_neg (by omega)]
    by_cases c2 : i < p + x.length
    · rw [if_pos (by omega), if_pos (by omega)]
    · rw [if_neg (by omega), if_neg (by omega), List.getElem?_drop]
      simp only [Array.getElem?_toList]
      congr 1; omega

/-- An append that may stay or move: the old name goes, a new one comes. -/
theorem moved_ok {g : T O} {w : World} (hS : HSat ρ g.get n w) {id off ln lny es m0 : Nat} {t0 : T V} {cur : Array Value} {tty : TypeId} {L : Loc} (hg : g.get id = some (.cells t0 m0)) (hbar : bar ≤ id) (hL : ρ id = some L)
    (hh : w.heap[L.b]? = some (.cells cur tty (0, 0))) (hcs : cur.size = L.bs) {olds new : List V} {oldv news : List Value} (hol : RvL ρ n olds oldv) (hnew : RvL ρ n new news) (ho1 : ∀ v ∈ olds, one1 v = true) (hn1 : ∀ v ∈ new, one1 v = true)
    (hqo : olds.length = ln * es) (hqn : new.length = lny * es) (hold : ∀ j u, oldv[j]? = some u → cur[L.base + off + j]? = some u) {t' : T V} (ht' : ∀ j, j < (ln + lny) * es → t'.get j = (olds ++ new)[j]?)
    {gg : T O} (hgg : ∀ i, gg.get i = if i = n then some (.cells t' ((ln + lny) * es)) else if i = id then none else g.get i) :
    (∀ w', w' = w.setRow L.b (cur.toList.take (L.base + off + ln * es) ++ news ++ cur.toList.drop (L.base + off + ln * es + news.length)).toArray → L.base + off + (ln + lny) * es ≤ L.bs →
      HSat (ρ.put n ⟨L.b, L.base + off, L.bs⟩) gg.get (n + 1) w' ∧ Fr (Own ρ g.get bar) w (Own (ρ.put n ⟨L.b, L.base + off, L.bs⟩) gg.get bar) w') ∧
    (∀ w' ty slack, w'.heap = w.heap.push (.cells ((oldv ++ news) ++ slack).toArray ty) → w'.os = w.os ∧ w'.tape = w.tape ∧ w'.output = w.output →
      HSat (ρ.put n ⟨w.heap.size, 0, ((oldv ++ news) ++ slack).length⟩) gg.get (n + 1) w' ∧ Fr (Own ρ g.get bar) w (Own (ρ.put n ⟨w.heap.size, 0, ((oldv ++ news) ++ slack).length⟩) gg.get bar) w') := by
  have hoL := hol.length
  have hnL := hnew.length
  have hid := (hS.objs id _ hg).1
  have hmul : (ln + lny) * es = ln * es + lny * es := Nat.add_mul _ _ _
  have hgn : ∀ i o, gg.get i = some o → i ≠ n → g.get i = some o ∧ i ≠ id := by
    intro i o h hne
    rw [hgg, if_neg hne] at h
    split at h
    · cases h
    · rename_i hi; exact ⟨h, hi⟩
  have hboth := hol.append hnew
  constructor
  · intro w' hw' hroom
    subst hw'
    have hkeep : ∀ b, b < w.heap.size → b ≠ L.b → (w.setRow L.b (cur.toList.take (L.base + off + ln * es) ++ news ++ cur.toList.drop (L.base + off + ln * es + news.length)).toArray).heap[b]? = w.heap[b]? := fun b _ hb => setRow_other w L.b b _ hb
    have hget := over_get cur (L.base + off + ln * es) news (by omega)
    refine ⟨hS.upd (id0 := n) (o0 := .cells t' ((ln + lny) * es)) (Nat.le_succ _) (agree_put _ _ _) (Nat.lt_succ_self _) (put_same _ _ _) ?_ (fun o h => by rw [hgg, if_pos rfl] at h; simpa using h.symm) (fun i o h hne => ?_) hkeep (dom_put hS.dom _) (fun i L' h => ?_),
      Fr.upd (id0 := n) (B := L.b) hS (agree_put _ _ _) ⟨rfl, rfl, rfl⟩ (by simp) hkeep (.inl ⟨id, _, L, hbar, hg, hL, rfl⟩) (fun L' h => by rw [put_same] at h; cases h; rfl) (fun i o h hne => (hgn i o h hne).1)⟩
    · simp only [ObjOk]
      refine ⟨_, _, tty, put_same _ _ _, setRow_heap w L.b cur _ tty (0, 0) hh, by simp; omega, hroom, fun i hi => ?_⟩
      have hi2 : i < (olds ++ new).length := by simp; omega
      obtain ⟨u, hu, hr⟩ := hboth.get i (olds ++ new)[i] (List.getElem?_eq_getElem hi2)
      refine ⟨_, u, by rw [ht' i hi]; exact List.getElem?_eq_getElem (by simp; omega), ?_, ?_, hr.ag (Nat.le_succ _) (agree_put _ _ _)⟩
      · rcases List.mem_append.1 (List.getElem_mem (l := olds ++ new) (n := i) (by simp; omega)) with h | h
        · exact ho1 _ h
        · exact hn1 _ h
      · show _[L.base + off + i]? = _
        rw [hget]
        rw [List.getElem?_append] at hu
        split at hu
        · rw [if_neg (by omega)]
          exact hold i u hu
        · rw [if_pos (by omega), show L.base + off + i - (L.base + off + ln * es) = i - oldv.length by omega]
          exact hu
    · obtain ⟨h1, h2⟩ := hgn i o h hne
      exact ⟨h1, fun L' hL' => hS.sep i o id _ h1 hg h2 L' L hL' hL⟩
    · rw [setRow_size]
      simp only [Nm.put] at h
      split at h
      · cases h; exact hS.blk id L hL
      · exact hS.blk i L' h
  · intro w' ty slack hw hio
    have hkeep : ∀ b, b < w.heap.size → b ≠ w.heap.size → w'.heap[b]? = w.heap[b]? := fun b hb _ => by rw [hw, Array.getElem?_push, if_neg (by omega)]
    have hsz : w'.heap.size = w.heap.size + 1 := by rw [hw]; simp
    refine ⟨hS.upd (id0 := n) (o0 := .cells t' ((ln + lny) * es)) (Nat.le_succ _) (agree_put _ _ _) (Nat.lt_succ_self _) (put_same _ _ _) ?_ (fun o h => by rw [hgg, if_pos rfl] at h; simpa using h.symm) (fun i o h hne => ?_) hkeep (dom_put hS.dom _) (fun i L' h => ?_),
      Fr.upd (id0 := n) (B := w.heap.size) hS (agree_put _ _ _) hio (by omega) hkeep (.inr (Nat.le_refl _)) (fun L' h => by rw [put_same] at h; cases h; rfl) (fun i o h hne => (hgn i o h hne).1)⟩
    · simp only [ObjOk]
      refine ⟨_, ((oldv ++ news) ++ slack).toArray, ty, put_same _ _ _, by rw [hw]; simp, by simp, by simp; omega, fun i hi => ?_⟩
      have hi2 : i < (olds ++ new).length := by simp; omega
      obtain ⟨u, hu, hr⟩ := hboth.get i (olds ++ new)[i] (List.getElem?_eq_getElem hi2)
      refine ⟨_, u, by rw [ht' i hi]; exact List.getElem?_eq_getElem (by simp; omega), ?_, ?_, hr.ag (Nat.le_succ _) (agree_put _ _ _)⟩
      · rcases List.mem_append.1 (List.getElem_mem (l := olds ++ new) (n := i) (by simp; omega)) with h | h
        · exact ho1 _ h
        · exact hn1 _ h
      · rw [Nat.zero_add, List.getElem?_toArray, List.getElem?_append_left (by simp; omega)]; exact hu
    · obtain ⟨h1, h2⟩ := hgn i o h hne
      exact ⟨h1, fun L' hL' => by have := hS.blk i L' hL'; show L'.b ≠ w.heap.size; omega⟩
    · simp only [Nm.put] at h
      split at h
      · cases h; show w.heap.size < _; omega
      · have := hS.blk i L' h; omega

theorem run_append_room_at (w : World) (t ty e : TypeId) (i : TypeInfo) (ht : P.underlying t = some (.slice e)) (hi : P.info? e = some i) (g o sLen sCap : Nat) {y : Value} {m : Nat} {news : List Value} {w' : World}
    (hlen : (Builtin.lenOf y).run P w = .ok m w) (hf : (Builtin.firstCells i.size m y).run P w = .ok news.toArray w) (hroom : sLen + m ≤ sCap)
    (hst : (storeCells ⟨g, o + sLen * i.size, none⟩ news).run P w = .ok () w') :
    (Builtin.append_ #[t, t] ty #[.slice (some ⟨g, o, none⟩) sLen sCap, y]).run P w = .ok (.slice (some ⟨g, o, none⟩) (sLen + m) sCap) w' := by
  simp [Builtin.append_, run_underlying ht, Go.sizeOf, typeInfo, hi, hlen, hroom, hf, add_at, hst]

theorem own_mono {g g' : Nat → Option O} {b : Nat} (h : ∀ i o, g' i = some o → ∃ o', g i = some o') (hb : Own ρ g' bar b) : Own ρ g bar b := by
  obtain ⟨i, o, L, h1, h2, h3, h4⟩ := hb
  obtain ⟨o', h5⟩ := h i o h2
  exact ⟨i, o', L, h1, h5, h3, h4⟩

section
variable (hE : EnvOk E P)
include hE

/-- An append onto a slice, of n elements whose cells have been read. -/
theorem appendX_ok {t es : Nat} (hes : elemSize E t = some es) {e : Nat} (hk : kindOf E t = .slice e) {ety : Ty} (hety : E.T e = some ety) (ty : TypeId) {g : T O} {w : World} (hS : HSat ρ g.get n w) {x y : V} {ux uy : Value}
    (hx : Rv ρ n x ux) (hy : Rv ρ n y uy) {m : Nat} (hm : lenV y = some m) {new : List V} {news : List Value} (hnew : RvL ρ n new news) (hnlen : new.length = m * es) (_hn1 : ∀ v ∈ new, one1 v = true)
    (hsrc : (m = 0 ∧ new = []) ∨ ∃ id off ln cap L off' c, y = .slc id es off ln cap ∧ ρ id = some L ∧ uy = .slice (some ⟨L.b, off', none⟩) ln c ∧ (ln ≠ 0 → off' = L.base + off) ∧ (∀ j u, news[j]? = some u → w.cell? ((⟨L.b, L.base + off, none⟩ : Addr).add j) = some u))
    {k : V → T O → Nat → R} {r : Ex × St} (h : appendX bar g n es ety.bytes x m new k = some r) :
    ∃ v g' n', k v g' n' = some r ∧ ∃ u ρ' w', (Builtin.append_ #[t, t] ty #[ux, uy]).run P w = .ok u w' ∧ Rv ρ' n' v u ∧ HSat ρ' g'.get n' w' ∧ agree n ρ ρ' ∧ n ≤ n' ∧ Fr (Own ρ g.get bar) w (Own ρ' g'.get bar) w' := by
  obtain ⟨e', ety', i, z, hu, hety', hk', hsz, hpos, hi, his, hib, hz, hzr⟩ := elem_ok hE hes
  rw [hk] at hk'; cases hk'
  rw [hety] at hety'; cases hety'
  have hlenof : (Builtin.lenOf uy).run P w = .ok m w := by
    match y, hm, hy with
    | .slc id es' off ln none, hm, hy =>
      simp only [lenV, Option.some.injEq] at hm
      simp only [Rv] at hy; obtain ⟨_, _, L, c, o, _, rfl, _⟩ := hy; simp [Builtin.lenOf, hm]
    | .slc id es' off ln (some c), hm, hy =>
      simp only [lenV, Option.some.injEq] at hm
      simp only [Rv] at hy; obtain ⟨_, _, _, L, _, rfl⟩ := hy; simp [Builtin.lenOf, hm]
    | .nils, hm, hy =>
      simp only [lenV, Option.some.injEq] at hm
      simp only [Rv] at hy; subst hy; simp [Builtin.lenOf, hm]
  have hnl := hnew.length
  -- what is read of the source, in a world with the same heap
  have hfirst : ∀ w2 : World, w2.heap = w.heap → (Builtin.firstCells i.size m uy).run P w2 = .ok news.toArray w2 := by
    intro w2 hw2
    have hcell : ∀ a, w2.cell? a = w.cell? a := fun a => by simp [World.cell?, hw2]
    rcases hsrc with ⟨h0, hnil⟩ | ⟨id, off, ln, cap, L, off', c, rfl, hL, rfl, hoff, hc⟩
    · have : news = [] := by rw [hnil] at hnl; exact List.length_eq_zero_iff.1 hnl
      subst this
      subst h0
      match y, hm, hy with
      | .slc id es' off ln none, hm, hy =>
        simp only [Rv] at hy; obtain ⟨_, _, L, c, o, _, rfl, _⟩ := hy; simp [Builtin.firstCells, loadCells, loadCellsFrom]
      | .slc id es' off ln (some c), hm, hy =>
        simp only [Rv] at hy; obtain ⟨_, _, _, L, _, rfl⟩ := hy; simp [Builtin.firstCells, loadCells, loadCellsFrom]
      | .nils, hm, hy =>
        simp only [Rv] at hy; subst hy; simp [Builtin.firstCells]
    · simp only [lenV, Option.some.injEq] at hm
      subst hm
      by_cases h0 : ln = 0
      · have : news = [] := by apply List.length_eq_zero_iff.1; rw [hnl, hnlen, h0, Nat.zero_mul]
        rw [this, h0]
        simp [Builtin.firstCells, loadCells, loadCellsFrom]
      · rw [hoff h0]
        exact run_firstCells_some (P := P) w2 i.size ln _ ln c news (by rw [hnl, hnlen, his]) (fun j v hj => by rw [hcell]; exact hc j v hj)
  -- a new array
  have fresh : ∀ (olds : List V) (oldv : List Value) (q : Nat) (need old : Nat) {kk : T O → Nat → R}, RvL ρ n olds oldv → (∀ v ∈ olds, one1 v = true) → olds.length = q * es → need = q + m → 0 < need → old < need → newRow g n (olds ++ new) kk = some r →
      ∀ u, u = Value.slice (some ⟨w.heap.size, 0, none⟩) need (grownCap w need old e) →
      ∃ g' ρ' w', kk g' (n + 1) = some r ∧ w' = w.drew.alloc (.cells (oldv.toArray ++ news.toArray ++ Builtin.zeroCells z.cells (grownCap w need old e - need)) e) ∧
        Rv ρ' (n + 1) (.slc n es 0 need none) u ∧ HSat ρ' g'.get (n + 1) w' ∧ agree n ρ ρ' ∧ Fr (Own ρ g.get bar) w (Own ρ' g'.get bar) w' := by
    intro olds oldv q need old kk hol h1 hql hneed hpos' hold hrow u hu
    have hge : need ≤ grownCap w need old e := grownCap_ge w need old e
    have hzs : z.cells.size = es := by have := (hzr ρ n).length; rw [← Array.length_toList, this, (hE.T _ _ hety).zlen, hsz]
    have hoL := hol.length
    obtain ⟨g', h2, h3, h4⟩ := newRow_ok (bar := bar) (ty := e) (slack := (Builtin.zeroCells z.cells (grownCap w need old e - need)).toList) hS (hol.append hnew) hrow
      (w' := w.drew.alloc (.cells (oldv.toArray ++ news.toArray ++ Builtin.zeroCells z.cells (grownCap w need old e - need)) e)) (by
        show w.heap.push _ = _
        congr 2
        apply Array.ext'; simp) ⟨rfl, rfl, rfl⟩
    refine ⟨g', _, _, h2, rfl, ?_, h3, agree_put _ _ _, h4⟩
    subst hu
    simp only [Rv]
    refine ⟨Nat.lt_succ_self _, hpos, _, _, 0, put_same _ _ _, rfl, hge, ?_, .inl rfl⟩
    have hzc : (Builtin.zeroCells z.cells (grownCap w need old e - need)).toList.length = (grownCap w need old e - need) * es := by simp [Builtin.zeroCells, hzs]
    simp only [List.length_append, hoL, hql, hnl, hnlen, hzc, Nat.zero_add, ← Nat.add_mul]
    congr 1; omega
  unfold appendX at h
  split at h
  · -- nothing
    have hnil : news = [] := by apply List.length_eq_zero_iff.1; rw [hnl, hnlen, Nat.zero_mul]
    have hsame : ∀ a ln c, ux = .slice a ln c → ln ≤ c → (Builtin.append_ #[t, t] ty #[ux, uy]).run P w = .ok ux w := by
      intro a ln c hux hle
      have hf := hfirst w rfl
      rw [hnil] at hf
      subst hux
      cases a <;> simp [Builtin.append_, run_underlying hu, run_sizeOf' hi, hlenof, hle, hf, storeCells]
    split at h
    · simp only [Rv] at hx
      exact ⟨_, _, _, h, ux, ρ, w, hsame none 0 0 hx (Nat.le_refl _), by simp only [Rv]; exact hx, hS, agree.refl _ _, Nat.le_refl _, Fr.refl _ _⟩
    · rename_i id es' off ln cap
      split at h
      · have hx0 := hx
        refine ⟨_, _, _, h, ux, ρ, w, ?_, hx0, hS, agree.refl _ _, Nat.le_refl _, Fr.refl _ _⟩
        cases cap with
        | none => simp only [Rv] at hx; obtain ⟨_, _, L, c, o, _, hux, hle, _⟩ := hx; exact hsame _ _ _ hux hle
        | some c => simp only [Rv] at hx; obtain ⟨_, _, hle, L, _, hux⟩ := hx; exact hsame _ _ _ hux hle
      · cases h
    · cases h
  · rename_i hm0
    have hm0 : m ≠ 0 := fun e => hm0 e
    obtain ⟨idy, offy, lny, capy, Ly, offy', cy, hyv, hLy, huy, hoffy, hcy⟩ := hsrc.resolve_left (fun h => hm0 h.1)
    subst hyv
    simp only [lenV, Option.some.injEq] at hm
    subst hm
    have hoffy := hoffy hm0
    subst hoffy
    split at h
    · -- onto nil
      simp only [Rv] at hx
      subst hx
      split at h
      · rename_i hb
        simp only [roomOk, Bool.and_eq_true, Nat.ble_eq] at hb
        have hb1 : lny * ety.bytes ≤ 4294967296 := hb.1
        have hpos' : 0 < lny := Nat.pos_of_ne_zero hm0
        unfold grown at h
        obtain ⟨g', ρ', w', h1, h2, h3, h4, h5, h6⟩ := fresh [] [] 0 lny 0 (by simp [RvL]) (by simp) (by simp) (Nat.zero_add _).symm hpos' hpos' (by simpa using h) _ rfl
        refine ⟨_, g', n + 1, h1, _, ρ', w', ?_, h3, h4, h5, Nat.le_succ _, h6⟩
        have hln63 : (lny : Int) ≤ 9223372036854775807 := by have := hb.2; omega
        have h48 : lny * i.bytes ≤ 281474976710656 := by rw [hib]; omega
        have := run_append_nil (P := P) w t ty e i z hu hi hz _ lny cy news (by rw [hnl, hnlen, his]) hcy hpos' hln63 h48
        rw [h2, huy]
        simpa using this
      · cases h
    · rename_i id es' off ln cap
      split at h
      · cases h
      · rename_i hc
        simp only [Bool.and_eq_true, Nat.beq_eq, roomOk, Nat.ble_eq] at hc
        obtain ⟨hee, hb, hb2⟩ := hc
        have hee : es = es' := hee
        subst hee
        have hb : (ln + lny) * ety.bytes ≤ 4294967296 := hb
        have hb2 : ln + lny ≤ 4294967296 := hb2
        have h63 : ((ln + lny : Nat) : Int) ≤ 9223372036854775807 := by omega
        have hpos' : 0 < ln + lny := Nat.lt_of_lt_of_le (Nat.pos_of_ne_zero hm0) (Nat.le_add_left _ _)
        have hlt' : ln < ln + lny := Nat.lt_add_of_pos_right (Nat.pos_of_ne_zero hm0)
        have hfit : ∀ c, c < ln + lny → Builtin.nextslicecap (ln + lny) c * i.bytes ≤ 281474976710656 := fun c hc => growslice_fits hc (by rw [hib]; omega)
        -- a new array behind the old elements
        have grows : ∀ {L : Loc} {a : Addr} {c : Nat} {olds : List V} {oldv : List Value} {kk : T O → Nat → R}, ux = .slice (some a) ln c → c < ln + lny → RvL ρ n olds oldv → (∀ v ∈ olds, one1 v = true) → olds.length = ln * es →
            (∀ j v, oldv[j]? = some v → w.cell? (a.add j) = some v) → newRow g n (olds ++ new) kk = some r →
            ∃ g' ρ' w' u, kk g' (n + 1) = some r ∧ (Builtin.append_ #[t, t] ty #[ux, uy]).run P w = .ok u w' ∧ Rv ρ' (n + 1) (.slc n es 0 (ln + lny) none) u ∧ HSat ρ' g'.get (n + 1) w' ∧ agree n ρ ρ' ∧ Fr (Own ρ g.get bar) w (Own ρ' g'.get bar) w' := by
          intro L a c olds oldv kk hux hc hol h1 hql holc hrow
          obtain ⟨g', ρ', w', g1, g2, g3, g4, g5, g6⟩ := fresh olds oldv ln (ln + lny) c hol h1 hql rfl hpos' hc hrow _ rfl
          have hoL := hol.length
          have := run_append_grow (P := P) w t ty e i z hu hi hz a ln c oldv (by rw [hoL, hql, his]) holc _ lny cy news (by rw [hnl, hnlen, his]) hcy hc h63 (hfit c hc)
          exact ⟨g', ρ', w', _, g1, by rw [hux, huy, g2]; exact this, g3, g4, g5, g6⟩
        -- into the room that there is
        have fits : ∀ {L : Loc} {c : Nat} {kk : T O → R}, ρ id = some L → ux = .slice (some ⟨L.b, L.base + off, none⟩) ln c → ln + lny ≤ c → store bar g id (off + ln * es) new kk = some r →
            ∃ g' w', kk g' = some r ∧ (Builtin.append_ #[t, t] ty #[ux, uy]).run P w = .ok (.slice (some ⟨L.b, L.base + off, none⟩) (ln + lny) c) w' ∧ HSat ρ g'.get n w' ∧ Fr (Own ρ g.get bar) w (Own ρ g'.get bar) w' := by
          intro L c kk hL hux hroom hst
          obtain ⟨g', w', g1, g2, g3, g4, _⟩ := store_ok hS hnew hL hst
          refine ⟨g', w', g1, ?_, g2, g3⟩
          rw [hux]
          exact run_append_room_at w t ty e i hu hi L.b (L.base + off) ln c hlenof (hfirst w rfl) hroom (by rw [his, Nat.add_assoc]; exact g4)
        cases cap with
        | some c =>
          simp only [Rv] at hx
          obtain ⟨hid, _, hlnc, L, hL, hux⟩ := hx
          simp only at h
          split at h
          · rename_i hroom
            have hroom : ln + lny ≤ c := by simpa using hroom
            obtain ⟨g', w', g1, g2, g3, g4⟩ := fits hL hux hroom h
            rw [fN_eq] at g1
            refine ⟨_, g', n, g1, _, ρ, w', g2, ?_, g3, agree.refl _ _, Nat.le_refl _, g4⟩
            simp only [Rv]
            exact ⟨hid, hpos, hroom, L, hL, rfl⟩
          · rename_i hroom
            have hroom : c < ln + lny := by
              have : ¬ ln + lny ≤ c := fun hh => by rw [← Nat.ble_eq] at hh; exact absurd (hh.symm.trans hroom) (by simp)
              omega
            obtain ⟨olds, oldv, q1, q2, q3, q4, q5⟩ := cellsOf_ok hS (y := .slc id es off ln (some c)) (u := ux) (by simp only [Rv]; exact ⟨hid, hpos, hlnc, L, hL, hux⟩) h
            rw [fL_eq, fN_eq] at q1
            unfold grown at q1
            have holc : ∀ j v, oldv[j]? = some v → w.cell? ((⟨L.b, L.base + off, none⟩ : Addr).add j) = some v := by
              rcases q5 with ⟨h0, hnil⟩ | ⟨id', off', ln', cap', L', o', c', heq, hL', hu', ho', hcell⟩
              · have := q2.length; rw [hnil] at this; have := List.length_eq_zero_iff.1 this; subst this
                intro j v hj; simp at hj
              · cases heq
                rw [hL] at hL'; cases hL'
                exact hcell
            obtain ⟨g', ρ', w', u, g1, g2, g3, g4, g5, g6⟩ := grows (L := L) hux hroom q2 q3 q4 holc q1
            exact ⟨_, g', n + 1, g1, u, ρ', w', g2, g3, g4, g5, Nat.le_succ _, g6⟩
        | none =>
          have hx0 := hx
          simp only [Rv] at hx
          obtain ⟨hid, _, L, c, off', hL, hux, hlnc, hbs, hoff⟩ := hx
          simp only at h
          split at h
          · rename_i tt mm hg hbar hone
            obtain ⟨_, hob⟩ := hS.objs id _ hg
            simp only [ObjOk] at hob
            obtain ⟨L', cur, tty, hL', hh, hcs, hmm, hcell⟩ := hob
            rw [hL] at hL'; cases hL'
            split at h
            · rename_i hfit'
              have hfit' : off + (ln + lny) * es ≤ mm := by simpa using hfit'
              have hroom : ln + lny ≤ c := by
                have h1 : (ln + lny) * es ≤ c * es := by omega
                exact Nat.le_of_mul_le_mul_right h1 hpos
              have hoff' : off' = L.base + off := by
                rcases hoff with h | h
                · exact h
                · omega
              subst hoff'
              obtain ⟨g', w', g1, g2, g3, g4⟩ := fits hL hux hroom h
              rw [fN_eq] at g1
              refine ⟨_, g', n, g1, _, ρ, w', g2, ?_, g3, agree.refl _ _, Nat.le_refl _, g4⟩
              simp only [Rv]
              exact ⟨hid, hpos, L, c, _, hL, rfl, hroom, hbs, .inl rfl⟩
            · split at h
              · cases h
              · rename_i hle
                have hle : off + ln * es ≤ mm := by simpa using hle
                have hbar' : bar ≤ id := by simpa [geB] using hbar
                have hn1' := (oneAll_iff _).1 hone
                -- what was there
                have old : ∃ olds oldv, RvL ρ n olds oldv ∧ (∀ v ∈ olds, one1 v = true) ∧ olds.length = ln * es ∧ (∀ j u, oldv[j]? = some u → cur[L.base + off + j]? = some u) ∧
                    (∀ j u, oldv[j]? = some u → w.cell? ((⟨L.b, L.base + off, none⟩ : Addr).add j) = some u) ∧
                    ∃ t' gg, (∀ j, j < (ln + lny) * es → t'.get j = (olds ++ new)[j]?) ∧ (∀ i, gg.get i = if i = n then some (.cells t' ((ln + lny) * es)) else if i = id then none else g.get i) ∧
                      k (.slc n es 0 (ln + lny) none) gg (n + 1) = some r := by
                  obtain ⟨olds, oldv, L2, cur2, ty2, p2, p3, p4, p5, p6, _, _, p8, p9, p10⟩ := cells_list hS hg hle
                  rw [hL] at p5; cases p5
                  rw [hh] at p6; cases p6
                  have hmul : (ln + lny) * es = ln * es + lny * es := Nat.add_mul _ _ _
                  refine ⟨olds, oldv, p3, p4, p2, p9, p10, ?_⟩
                  split at h
                  · -- from the head on
                    obtain ⟨t', q1, q2⟩ := wrt_ok _ _ _ h
                    rw [fN_eq, fN_eq, T.set_eq, T.set_eq] at q1
                    have hm1 : Nat.mul ln es = ln * es := rfl
                    refine ⟨t', _, fun j hj => ?_, fun i => ?_, q1⟩
                    · rw [q2, List.getElem?_append, p2, hm1]
                      by_cases hj2 : j < ln * es
                      · rw [if_neg (by omega), if_pos hj2]
                        have := p8 j hj2
                        rwa [Nat.zero_add] at this
                      · rw [if_neg hj2, if_pos (by omega)]
                    · rw [T.get_up, T.get_up]; rfl
                  · rw [show Nat.mul ln es = olds.length from p2.symm, rd_eq olds off _ (fun j hj => p8 j (by omega)), fL_eq, fN_eq, T.set_eq] at h
                    unfold newRow at h
                    split at h
                    · obtain ⟨t', q1, q2⟩ := wrt_ok _ _ _ h
                      rw [fN_eq, CX.new, T.set_eq, len_eq] at q1
                      refine ⟨t', _, fun j hj => ?_, fun i => ?_, q1⟩
                      · rw [q2, if_pos (by simp; omega), Nat.sub_zero]
                      · rw [T.get_up, T.get_up]
                        have : (olds ++ new).length = (ln + lny) * es := by simp; omega
                        rw [this]
                    · cases h
                obtain ⟨olds, oldv, o1, o2, o3, o4, o5, t', gg, o6, o7, o8⟩ := old
                have hoL := o1.length
                obtain ⟨m1, m2⟩ := moved_ok (bar := bar) hS hg hbar' hL hh hcs o1 hnew o2 hn1' o3 hnlen o4 o6 o7
                by_cases hroom : ln + lny ≤ c
                · have hoff' : off' = L.base + off := by
                    rcases hoff with h | h
                    · exact h
                    · omega
                  subst hoff'
                  have hfitc : L.base + off + (ln + lny) * es ≤ L.bs := by
                    have : (ln + lny) * es ≤ c * es := Nat.mul_le_mul_right _ hroom
                    omega
                  obtain ⟨m3, m4⟩ := m1 _ rfl hfitc
                  have hx1 : ∀ v ∈ news, v.oneCell' = true := by
                    intro v hv
                    obtain ⟨i, hi, rfl⟩ := List.getElem_of_mem hv
                    have hi' : i < new.length := by omega
                    obtain ⟨u, hu, hr⟩ := hnew.get i new[i] (List.getElem?_eq_getElem hi')
                    rw [List.getElem?_eq_getElem hi] at hu
                    cases hu
                    exact one1_cell hr (hn1' _ (List.getElem_mem hi'))
                  have hst := run_storeCells_at P L.b (L.base + off + ln * es) tty news 0 cur w hh (by rw [Nat.add_mul] at hfitc; omega) hx1
                  simp only [Nat.add_zero] at hst
                  refine ⟨_, gg, n + 1, o8, .slice (some ⟨L.b, L.base + off, none⟩) (ln + lny) c, _, _, ?_, ?_, m3, agree_put _ _ _, Nat.le_succ _, m4⟩
                  · rw [hux]
                    exact run_append_room_at w t ty e i hu hi L.b (L.base + off) ln c hlenof (hfirst w rfl) hroom (by rw [his]; exact hst)
                  · simp only [Rv]
                    exact ⟨Nat.lt_succ_self _, hpos, _, c, _, put_same _ _ _, rfl, hroom, by show L.base + off + 0 + c * es = L.bs; omega, .inl rfl⟩
                · have hc : c < ln + lny := Nat.lt_of_not_le hroom
                  have hge : ln + lny ≤ grownCap w (ln + lny) c e := grownCap_ge w (ln + lny) c e
                  have hzs : z.cells.size = es := by have := (hzr ρ n).length; rw [← Array.length_toList, this, (hE.T _ _ hety).zlen, hsz]
                  have hzc : (Builtin.zeroCells z.cells (grownCap w (ln + lny) c e - (ln + lny))).toList.length = (grownCap w (ln + lny) c e - (ln + lny)) * es := by simp [Builtin.zeroCells, hzs]
                  obtain ⟨m3, m4⟩ := m2 (w.drew.alloc (.cells (oldv.toArray ++ news.toArray ++ Builtin.zeroCells z.cells (grownCap w (ln + lny) c e - (ln + lny))) e)) e (Builtin.zeroCells z.cells (grownCap w (ln + lny) c e - (ln + lny))).toList (by
                    show w.heap.push _ = _
                    congr 2
                    apply Array.ext'; simp) ⟨rfl, rfl, rfl⟩
                  have holc : ∀ j v, oldv[j]? = some v → w.cell? ((⟨L.b, off', none⟩ : Addr).add j) = some v := by
                    rcases hoff with h | h
                    · rw [h]; exact o5
                    · have : oldv = [] := List.length_eq_zero_iff.1 (by rw [hoL, o3, show ln = 0 by omega, Nat.zero_mul])
                      subst this
                      intro j v hj; simp at hj
                  have hrun := run_append_grow (P := P) w t ty e i z hu hi hz ⟨L.b, off', none⟩ ln c oldv (by rw [hoL, o3, his]) holc _ lny cy news (by rw [hnl, hnlen, his]) hcy hc h63 (hfit c hc)
                  refine ⟨_, gg, n + 1, o8, _, _, _, by rw [hux, huy]; exact hrun, ?_, m3, agree_put _ _ _, Nat.le_succ _, m4⟩
                  simp only [Rv]
                  refine ⟨Nat.lt_succ_self _, hpos, _, _, 0, put_same _ _ _, rfl, hge, ?_, .inl rfl⟩
                  simp only [List.length_append, hoL, o3, hnl, hnlen, hzc, Nat.zero_add, ← Nat.add_mul]
                  congr 1; omega
          · cases h
    · cases h
end
end
end CX

/-
  CX: operations that write memory, or make some, do what the executor says (2).
-/
namespace CX
open Go

section
variable {P : Program} {E : Env} {ρ : Nm} {n bar : Nat}

theorem setK_ok {kind : TypeDesc} {kd : TK} (hkd : KdOk P kd kind) {key : V} {ku : Value} (hkv : keyV kd key = true) (hkey : Rv ρ n key ku) {val : V} {vu : Value} (hval : Rv ρ n val vu) (c : Nat) :
    ∀ (l : List (V × V × Nat)) (es : List MapEntry) (i : Nat) {k : List (V × V × Nat) → Bool → R} {r : Ex × St}, RvM ρ n l es → setK key val l c k = some r →
      ∃ l' f, k l' f = some r ∧
        ((f = true ∧ Instr.findNow kind ku es i = some none ∧ RvM ρ n l' (es ++ [{ key := ku, val := vu, born := c }])) ∨
         (f = false ∧ ∃ j u e, Instr.findNow kind ku es i = some (some (i + j, u)) ∧ es[j]? = some e ∧ RvM ρ n l' (es.set j { e with key := ku, val := vu }) ∧ Instr.sameNow kind ku e.key = some true))
  | [], [], i, k, r, _, h => ⟨_, _, h, .inl ⟨rfl, rfl, by simp only [List.nil_append, RvM]; exact ⟨hkey, hval, trivial, trivial⟩⟩⟩
  | (q, v, b) :: l, e :: es, i, k, r, hr, h => by
    simp only [RvM] at hr
    simp only [setK] at h
    split at h
    · rename_i hc
      have hs := same_now hkd hkv hkey hr.1 hc
      refine ⟨_, _, h, .inr ⟨rfl, 0, e.val, e, by simp only [Instr.findNow, hs, Nat.add_zero], rfl, ?_, hs⟩⟩
      simp only [List.set_cons_zero, RvM]
      exact ⟨hkey, hval, hr.2.2.1, hr.2.2.2⟩
    · rename_i hc
      have hs := same_now hkd hkv hkey hr.1 hc
      obtain ⟨l', f, h1, h2⟩ := setK_ok hkd hkv hkey hval c l es (i + 1) hr.2.2.2 h
      refine ⟨_, f, h1, ?_⟩
      rcases h2 with ⟨g1, g2, g3⟩ | ⟨g1, j, u, e', g2, g3, g4, g5⟩
      · refine .inl ⟨g1, by simp only [Instr.findNow, hs]; exact g2, ?_⟩
        simp only [List.cons_append, RvM]
        exact ⟨hr.1, hr.2.1, hr.2.2.1, g3⟩
      · refine .inr ⟨g1, j + 1, u, e', by simp only [Instr.findNow, hs]; rw [g2]; congr 3; omega, by simpa using g3, ?_, g5⟩
        simp only [List.set_cons_succ, RvM]
        exact ⟨hr.1, hr.2.1, hr.2.2.1, g4⟩
    · cases h
  | [], _ :: _, _, _, _, h, _ => by simp [RvM] at h
  | _ :: _, [], _, _, _, h, _ => by simp [RvM] at h

theorem alloc_get (w : World) (ob : Obj) : (w.alloc ob).heap[w.heap.size]? = some ob := by
  show (w.heap.push ob)[w.heap.size]? = _
  simp

theorem run_setMap {w : World} {r : Nat} {es : Array MapEntry} {c : Nat} (h : w.heap[r]? = some (.map es c)) (o : Obj) : (setObj r o).run P w = .ok () { w with heap := w.heap.setIfInBounds r o } := by
  simp [setObj, Sem.run, h]

/-- An object that is no row is set. -/
theorem setObj_ok {g : T O} {w : World} (hS : HSat ρ g.get n w) {id : Nat} {o o' : O} {L : Loc} (hL : ρ id = some L) (hg : g.get id = some o) (hbar : bar ≤ id) {ob : Obj} {w' : World} (hw : w'.heap = w.heap.setIfInBounds L.b ob)
    (hio : w'.os = w.os ∧ w'.tape = w.tape ∧ w'.output = w.output) (ho : ObjOk ρ n w' id o') : HSat ρ (g.up id (some o')).get n w' ∧ Fr (Own ρ g.get bar) w (Own ρ (g.up id (some o')).get bar) w' := by
  have hid := (hS.objs id o hg).1
  have hkeep : ∀ b, b < w.heap.size → b ≠ L.b → w'.heap[b]? = w.heap[b]? := fun b _ hb => by rw [hw, Array.getElem?_setIfInBounds_ne (Ne.symm hb)]
  have hsz : w'.heap.size = w.heap.size := by rw [hw]; simp
  refine ⟨hS.upd (id0 := id) (o0 := o') (Nat.le_refl _) (agree.refl _ _) hid hL ho (fun q h => by rw [T.get_up, if_pos rfl] at h; simpa using h.symm) (fun i q h hne => ?_) hkeep hS.dom (fun i L' h => by rw [hsz]; exact hS.blk i L' h),
    Fr.upd (id0 := id) (B := L.b) hS (agree.refl _ _) hio (by omega) hkeep (.inl ⟨id, _, L, hbar, hg, hL, rfl⟩) (fun L' h => by rw [hL] at h; cases h; rfl) (fun i q h hne => by rw [T.get_up, if_neg hne] at h; exact h)⟩
  rw [T.get_up, if_neg hne] at h
  exact ⟨h, fun L' hL' => hS.sep i q id _ h hg hne L' L hL' hL⟩

theorem set_get {w : World} {b : Nat} {o0 : Obj} (h : w.heap[b]? = some o0) (ob : Obj) : (w.heap.setIfInBounds b ob)[b]? = some ob := by
  have := (Array.getElem?_eq_some_iff.1 h).1
  simp [this]

theorem evL_ok' {ev : Operand → Option V} {ρe : Operand → Value} : ∀ (l : List Operand) {k : List V → R} {r : Ex × St}, (∀ x ∈ l, ∀ v, ev x = some v → Rv ρ n v (ρe x)) → evL ev l k = some r →
    ∃ vs, k vs = some r ∧ RvL ρ n vs (l.map ρe) := fun l => evL_ok l

section
variable (hE : EnvOk E P)
include hE

/-- A copy. -/
theorem copyX_ok {t es : Nat} (hes : elemSize E t = some es) {at_ : Array TypeId} (hat : at_[0]? = some t) (ty : TypeId) {g : T O} {w : World} (hS : HSat ρ g.get n w) {x y : V} {ux uy : Value} (hx : Rv ρ n x ux) (hy : Rv ρ n y uy)
    {k : V → T O → Nat → R} {r : Ex × St} (h : copyX bar g n es x y k = some r) :
    ∃ v g' w' u, k v g' n = some r ∧ (Builtin.copy_ at_ ty #[ux, uy]).run P w = .ok u w' ∧ Rv ρ n v u ∧ HSat ρ g'.get n w' ∧ Fr (Own ρ g.get bar) w (Own ρ g'.get bar) w' := by
  obtain ⟨e, ety, i, z, hu, hety, hk, hsz, hpos, hi, his, hib, hz, hzr⟩ := elem_ok hE hes
  unfold copyX at h
  split at h
  · cases h
  · rename_i m hm
    have hlenof : (Builtin.lenOf uy).run P w = .ok m w := by
      match y, hm, hy with
      | .slc id es' off ln none, hm, hy =>
        simp only [lenV, Option.some.injEq] at hm
        simp only [Rv] at hy; obtain ⟨_, _, L, c, o, _, rfl, _⟩ := hy; simp [Builtin.lenOf, hm]
      | .slc id es' off ln (some c), hm, hy =>
        simp only [lenV, Option.some.injEq] at hm
        simp only [Rv] at hy; obtain ⟨_, _, _, L, _, rfl⟩ := hy; simp [Builtin.lenOf, hm]
      | .nils, hm, hy =>
        simp only [lenV, Option.some.injEq] at hm
        simp only [Rv] at hy; subst hy; simp [Builtin.lenOf, hm]
    have hfirst0 : (Builtin.firstCells i.size 0 uy).run P w = .ok #[] w := by
      match y, hm, hy with
      | .slc id es' off ln none, hm, hy =>
        simp only [Rv] at hy; obtain ⟨_, _, L, c, o, _, rfl, _⟩ := hy; simp [Builtin.firstCells, loadCells, loadCellsFrom]
      | .slc id es' off ln (some c), hm, hy =>
        simp only [Rv] at hy; obtain ⟨_, _, _, L, _, rfl⟩ := hy; simp [Builtin.firstCells, loadCells, loadCellsFrom]
      | .nils, hm, hy =>
        simp only [Rv] at hy; subst hy; simp [Builtin.firstCells]
    have run0 : ∀ base dl dc, ux = .slice base dl dc → Nat.min m dl = 0 → (Builtin.copy_ at_ ty #[ux, uy]).run P w = .ok (.int .i64 0) w := by
      intro base dl dc hux hmin
      subst hux
      cases base with
      | none => simp [Builtin.copy_, hat, run_underlying hu, hlenof, hmin, run_sizeOf' hi, hfirst0, goInt]
      | some a => simp [Builtin.copy_, hat, run_underlying hu, hlenof, hmin, run_sizeOf' hi, hfirst0, goInt, storeCells]
    split at h
    · simp only [Rv] at hx
      exact ⟨_, g, w, _, h, run0 none 0 0 hx (by simp), by simp [Rv], hS, Fr.refl _ _⟩
    · rename_i id es' off ln cap
      rw [fN_eq] at h
      have hxs : ∃ L off' c, ρ id = some L ∧ ux = .slice (some ⟨L.b, off', none⟩) ln c ∧ (ln ≠ 0 → off' = L.base + off) := by
        cases cap with
        | none =>
          simp only [Rv] at hx
          obtain ⟨_, _, L, c, o', hL, hu, hle, _, ho'⟩ := hx
          exact ⟨L, o', c, hL, hu, fun h0 => by rcases ho' with h | h; exact h; omega⟩
        | some c => simp only [Rv] at hx; obtain ⟨_, _, _, L, hL, hu⟩ := hx; exact ⟨L, _, c, hL, hu, fun _ => rfl⟩
      obtain ⟨L, off', c, hL, hux, hoff⟩ := hxs
      split at h
      · rename_i hq
        exact ⟨_, g, w, _, h, run0 _ _ _ hux hq, by simp [Rv], hS, Fr.refl _ _⟩
      · rename_i hq
        have hq : Nat.min m ln ≠ 0 := fun e => hq e
        have hln : ln ≠ 0 := fun e => hq (by rw [e]; exact Nat.min_zero _)
        obtain ⟨l, xs, g1, g2, g3, g4, g5⟩ := cellsOf_ok hS hy h
        have hxl := g2.length
        obtain ⟨g', w', p1, p2, p3, p4, _⟩ := store_ok (P := P) hS g2 hL g1
        refine ⟨_, g', w', .int .i64 (.ofNat (Nat.min m ln)), p1, ?_, by simp [Rv], p2, p3⟩
        have hfirst : (Builtin.firstCells i.size (Nat.min m ln) uy).run P w = .ok xs.toArray w := by
          rcases g5 with ⟨h0, _⟩ | ⟨id2, off2, ln2, cap2, L2, off2', c2, rfl, hL2, rfl, hoff2, hc2⟩
          · exact absurd h0 hq
          · simp only [lenV, Option.some.injEq] at hm
            subst hm
            have h20 : ln2 ≠ 0 := fun e => hq (by rw [e]; exact Nat.zero_min _)
            rw [hoff2 h20]
            exact run_firstCells_some (P := P) w i.size (Nat.min ln2 ln) _ ln2 c2 xs (by rw [hxl, g4, his]) hc2
        rw [hux, hoff hln]
        simp [Builtin.copy_, hat, run_underlying hu, hlenof, run_sizeOf' hi, hfirst, goInt, p4]
    · cases h

/-- **What writes memory, or makes some.** -/
theorem opM_ok {g : T O} {w : World} (hS : HSat ρ g.get n w) {o : Oper} {ev : Operand → Option V} {ρe : Operand → Value} (hev : ∀ x ∈ o.op.operands, ∀ v, ev x = some v → Rv ρ n v (ρe x))
    {k : V → T O → Nat → R} {r : Ex × St} (h : opM E bar ev g n o.op k = some r) : ∃ v g' n', k v g' n' = some r ∧ MOk ρ g.get n w bar ((execOp ρe o).run P w) v g'.get n' := by
  have val : ∀ {v : V} {g' : T O} {n' : Nat} {u : Value} {ρ' : Nm} {w' : World}, (execOp ρe o).run P w = .ok (.value u) w' → Rv ρ' n' v u → HSat ρ' g'.get n' w' → agree n ρ ρ' → n ≤ n' → Fr (Own ρ g.get bar) w (Own ρ' g'.get bar) w' →
      MOk ρ g.get n w bar ((execOp ρe o).run P w) v g'.get n' := fun h1 h2 h3 h4 h5 h6 => ⟨_, _, _, _, h1, .inl rfl, h2, h3, h4, h5, h6⟩
  cases ho : o.op with
  | alloc t =>
    rw [ho] at h
    simp only [opM] at h
    split at h
    · rename_i ty hty
      have hok := hE.T _ _ hty
      obtain ⟨i, z, hi, his, _, hz, hzr, _⟩ := hok.info
      rw [CX.new, T.set_eq] at h
      have hzl := (hzr ρ n).length
      have hzc : z.cells.toList.length = ty.size := by rw [hzl, hok.zlen]
      obtain ⟨h3, h4⟩ := HSat.new (g' := (g.up n (some (.cells ty.zt ty.size))).get) (bar := bar) (bs := ty.size) (w' := w.alloc (.cells z.cells t)) (o := .cells ty.zt ty.size) hS rfl ⟨rfl, rfl, rfl⟩ (by
        simp only [ObjOk]
        refine ⟨_, z.cells, t, put_same _ _ _, alloc_get w _, by simpa using hzc, by simp, fun j hj => ?_⟩
        have hj' : j < ty.zero.length := by rw [hok.zlen]; exact hj
        obtain ⟨u, hu, hr⟩ := (hzr ρ n).get j ty.zero[j] (List.getElem?_eq_getElem hj')
        exact ⟨ty.zero[j], u, by rw [hok.zt j hj]; exact List.getElem?_eq_getElem hj', hok.zone _ (List.getElem_mem hj'), by rw [Nat.zero_add, ← Array.getElem?_toList]; exact hu, hr.ag (Nat.le_succ _) (agree_put _ _ _)⟩) (fun id => T.get_up _ _ _ _)
      refine ⟨_, _, _, h, val (u := .pointer (some ⟨w.heap.size, 0, none⟩)) ?_ ?_ h3 (agree_put _ _ _) (Nat.le_succ _) h4⟩
      · simp [execOp, ho, Instr.alloc, zeroValue, typeInfo, hi, hz, newVar, Go.newRow]
      · simp only [Rv]; exact ⟨Nat.lt_succ_self _, _, put_same _ _ _, rfl⟩
    · cases h
  | box t x =>
    rw [ho] at h hev
    simp only [opM] at h
    split at h
    · rename_i v hv
      have hr := hev x (by simp [Op.operands]) _ hv
      have hone : ∀ x ∈ flat v, one1 x = true := by
        unfold CX.newRow at h
        split at h
        · rename_i ho; exact (oneAll_iff _).1 ho
        · cases h
      have hfl := flat_cells hr hone
      obtain ⟨g', h1, h2, h3⟩ := newRow_ok (bar := bar) (ty := t) (slack := []) hS hfl h (w' := w.alloc (.cells (ρe x).cells t)) (by show w.heap.push _ = _; simp) ⟨rfl, rfl, rfl⟩
      refine ⟨_, _, _, h1, val (u := .pointer (some ⟨w.heap.size, 0, none⟩)) ?_ ?_ h2 (agree_put _ _ _) (Nat.le_succ _) h3⟩
      · simp [execOp, ho, Instr.box, newVar, Go.newRow]
      · simp only [Rv]; exact ⟨Nat.lt_succ_self _, _, put_same _ _ _, rfl⟩
    · cases h
  | buildSlice t m ps =>
    rw [ho] at h hev
    simp only [opM] at h
    split at h
    · rename_i e hk
      obtain ⟨d, hd, hkd⟩ := und_of hE hk (by simp)
      simp only [KdOk] at hkd
      subst hkd
      split at h
      · rename_i ety hety
        have hok := hE.T _ _ hety
        obtain ⟨i, z, hi, his, _, hz, hzr, _⟩ := hok.info
        split at h
        · rename_i hle h0
          have hle : m * ety.size ≤ 4096 := by simpa using hle
          have hpos : 0 < ety.size := by
            rcases Nat.eq_zero_or_pos ety.size with h1 | h1
            · rw [h1] at h0; simp at h0
            · exact h1
          obtain ⟨l', x', g1, g2, g3, g4, g5⟩ := fillA_ok (ρ := ρ) (n := n) (ρe := ρe) ps.toList (rep m ety.zero) (repV m z.cells.toList) (fun p hp v hv => hev p.2 (by simp only [Op.operands, List.mem_toArray, List.mem_map]; exact ⟨p, hp, rfl⟩) v hv) (rep_rel (hzr ρ n) m) (rep_mem hok.zone m) h
          have hzl := (hzr ρ n).length
          have hzs : z.cells.size = ety.size := by rw [← Array.length_toList, hzl, hok.zlen]
          obtain ⟨g', h1, h2, h3⟩ := newRow_ok (bar := bar) (ty := e) (slack := []) hS g2 g1 (w' := w.alloc (.cells x'.toArray e)) (by show w.heap.push _ = _; simp) ⟨rfl, rfl, rfl⟩
          refine ⟨_, _, _, h1, val (u := .slice (some ⟨w.heap.size, 0, none⟩) m m) ?_ ?_ h2 (agree_put _ _ _) (Nat.le_succ _) h3⟩
          · have hzero : ((Array.range (m * ety.size)).map (z.cells[· % z.cells.size]!)) = (repV m z.cells.toList).toArray := by
              apply Array.ext'
              have := zeroCells_eq z.cells (by omega) m
              simpa [Builtin.zeroCells, hzs] using this
            have n1 : ¬ (16777216 < m * ety.size) := by omega
            have hfill : Instr.fill (fun i => some (i * ety.size, ety.size)) ((Array.range (m * ety.size)).map (z.cells[· % z.cells.size]!)) (ps.toList.map fun p => (p.1, ρe p.2)) = some x'.toArray := by
              rw [hzero]; exact g5
            by_cases h0' : m * ety.size = 0
            · have hm0 : m = 0 := by
                rcases Nat.mul_eq_zero.1 h0' with h | h
                · exact h
                · omega
              subst hm0
              simp only [Nat.zero_mul, Array.range_zero', Array.map_empty] at hfill
              simp [execOp, ho, Instr.buildSlice, run_underlying hd, run_sizeOf' hi, his, Go.newRow, hfill, Array.range_zero']
            · simp [execOp, ho, Instr.buildSlice, run_underlying hd, run_sizeOf' hi, his, n1, h0', run_zeroValue' hi hz, Go.newRow, hfill]
          · simp only [Rv]; exact ⟨Nat.lt_succ_self _, hpos, Nat.le_refl _, _, put_same _ _ _, rfl⟩
        · cases h
      · cases h
    · cases h
  | makeMap t re =>
    rw [ho] at h hev
    simp only [opM] at h
    have fin : ∀ {r'}, CX.new g n (.map [] 0) (fun h nx' => k (.map n) h nx') = some r' → (execOp ρe o).run P w = .ok (.value (.map (some w.heap.size))) (w.alloc (.map #[] 0)) → ∃ v g' n', k v g' n' = some r' ∧ MOk ρ g.get n w bar ((execOp ρe o).run P w) v g'.get n' := by
      intro r' h hrun
      rw [CX.new, T.set_eq] at h
      obtain ⟨h3, h4⟩ := HSat.new (g' := (g.up n (some (.map [] 0))).get) (bar := bar) (bs := 0) (w' := w.alloc (.map #[] 0)) (o := .map [] 0) hS rfl ⟨rfl, rfl, rfl⟩ (by
        simp only [ObjOk]
        exact ⟨_, #[], put_same _ _ _, alloc_get w _, by simp [RvM]⟩) (fun id => T.get_up _ _ _ _)
      exact ⟨_, _, _, h, val hrun (by simp only [Rv]; exact ⟨Nat.lt_succ_self _, _, put_same _ _ _, rfl⟩) h3 (agree_put _ _ _) (Nat.le_succ _) h4⟩
    split at h
    · exact fin h (by simp [execOp, ho, Instr.makeMap])
    · rename_i kt et x hk
      obtain ⟨d, hd, hkd⟩ := und_of hE hk (by simp)
      simp only [KdOk] at hkd
      subst hkd
      split at h
      · rename_i kd m hx
        have hr := hev x (by simp [Op.operands]) _ hx
        simp only [Rv] at hr
        exact fin h (by simp [execOp, ho, hr, Instr.makeMap, run_underlying hd, asInt, asIntOf])
      · cases h
    · cases h
  | makeSlice t l c =>
    rw [ho] at h hev
    simp only [opM] at h
    split at h
    · rename_i e a b hk ha hb
      obtain ⟨d, hd, hkd⟩ := und_of hE hk (by simp)
      simp only [KdOk] at hkd
      subst hkd
      have hra := hev l (by simp [Op.operands]) _ ha
      have hrb := hev c (by simp [Op.operands]) _ hb
      simp only [Rv] at hra hrb
      split at h
      · rename_i ety hety
        have hok := hE.T _ _ hety
        obtain ⟨i, z, hi, his, hib, hz, hzr, _⟩ := hok.info
        split at h
        · rename_i hc h0
          simp only [Bool.and_eq_true, Nat.ble_eq] at hc
          obtain ⟨⟨hab, hc1⟩, hc2⟩ := hc
          have hc1 : b * ety.size ≤ 4096 := hc1
          have hc2 : b * ety.bytes ≤ 140737488355328 := hc2
          have hpos : 0 < ety.size := by
            rcases Nat.eq_zero_or_pos ety.size with h1 | h1
            · rw [h1] at h0; simp at h0
            · exact h1
          have hb4 : b ≤ 4096 := Nat.le_trans (Nat.le_mul_of_pos_right b hpos) hc1
          rw [fL_eq] at h
          have hzl := (hzr ρ n).length
          have hzs : z.cells.size = ety.size := by rw [← Array.length_toList, hzl, hok.zlen]
          obtain ⟨g', h1, h2, h3⟩ := newRow_ok (bar := bar) (ty := e) (slack := []) hS (rep_rel (hzr ρ n) b) h (w' := w.alloc (.cells (repV b z.cells.toList).toArray e)) (by show w.heap.push _ = _; simp) ⟨rfl, rfl, rfl⟩
          refine ⟨_, _, _, h1, val (u := .slice (some ⟨w.heap.size, 0, none⟩) a b) ?_ ?_ h2 (agree_put _ _ _) (Nat.le_succ _) h3⟩
          · have hrun := run_make (P := P) w t e i z hd hi hz .i64 .i64 (a : Int) (b : Int) (by omega) (by omega) (by rw [hib, ← Int.natCast_mul, Nat.mul_comm]; omega) (by omega)
            have hzero : madeCells z.cells (b * ety.size) = (repV b z.cells.toList).toArray := by
              apply Array.ext'
              have := zeroCells_eq z.cells (by omega) b
              simpa [Builtin.zeroCells, madeCells, hzs] using this
            rw [his] at hrun
            simp only [Int.toNat_natCast, hzero] at hrun
            simp only [execOp, ho, hra, hrb, Int.ofNat_eq_natCast, Sem.run_bind, hrun, Result.andThen_ok, Sem.run_pure]
          · simp only [Rv]; exact ⟨Nat.lt_succ_self _, hpos, hab, _, put_same _ _ _, rfl⟩
        · cases h
      · cases h
    · cases h
  | store t x y =>
    rw [ho] at h hev
    simp only [opM] at h
    split at h
    · rename_i ty id off v hty hx hy
      obtain ⟨i, z, hi, his, _⟩ := (hE.T _ _ hty).info
      have hrx := hev x (by simp [Op.operands]) _ hx
      have hry := hev y (by simp [Op.operands]) _ hy
      simp only [Rv] at hrx
      obtain ⟨hid, L, hL, hu⟩ := hrx
      split at h
      · rename_i hlen
        rw [Nat.beq_eq, len_eq] at hlen
        have hone : ∀ x ∈ flat v, one1 x = true := by
          unfold CX.store at h
          split at h
          · rename_i ho; exact (oneAll_iff _).1 ho
          · cases h
        have hfl := flat_cells hry hone
        obtain ⟨g', w', h1, h2, h3, h4, _⟩ := store_ok (P := P) hS hfl hL h
        have hsz := len_of_flat hfl
        refine ⟨_, _, _, h1, .skip, undef, ρ, w', ?_, .inr ⟨rfl, rfl⟩, by simp only [Rv]; exact ⟨[], by simp [RvL], rfl⟩, h2, agree.refl _ _, Nat.le_refl _, h3⟩
        simp [execOp, ho, hu, Instr.storeAt, Instr.sureAddr, storeVar, run_sizeOf' hi, his, hsz, hlen, h4]
      · cases h
    · cases h
  | mapUpdate t m key v =>
    rw [ho] at h hev
    simp only [opM] at h
    split at h
    · rename_i kt et id kv vv hk hm hkey hv
      obtain ⟨d, hd, hkd⟩ := und_of hE hk (by simp)
      simp only [KdOk] at hkd
      subst hkd
      have hrm := hev m (by simp [Op.operands]) _ hm
      have hrk := hev key (by simp [Op.operands]) _ hkey
      have hrv := hev v (by simp [Op.operands]) _ hv
      simp only [Rv] at hrm
      obtain ⟨hid, L, hL, hu⟩ := hrm
      split at h
      · rename_i l c hg hb
        simp only [Bool.and_eq_true] at hb
        obtain ⟨hbar, hkv⟩ := hb
        have hbar : bar ≤ id := by simpa [geB] using hbar
        obtain ⟨kind, hkind, hkdk⟩ : ∃ kind, P.underlying kt = some kind ∧ KdOk P (kindOf E kt) kind := by
          refine und_of hE rfl fun h0 => ?_
          rw [h0] at hkv
          simp [keyV] at hkv
        obtain ⟨_, hobj⟩ := hS.objs id _ hg
        simp only [ObjOk] at hobj
        obtain ⟨L', es, hL', hh, hmm⟩ := hobj
        rw [hL] at hL'; cases hL'
        have hck : ∀ emp, (Instr.checkKey emp 10000 kt (ρe key)).run P w = .ok () w := fun emp => run_checkKey hkind hkdk hkv emp 9999 w
        obtain ⟨l', f, h1, h2⟩ := setK_ok hkdk hkv hrk hrv c l es.toList 0 hmm h
        rcases h2 with ⟨rfl, hf, hr'⟩ | ⟨rfl, j, u, e, hf, he, hr', hsame⟩
        · simp only at h1
          rw [T.set_eq] at h1
          obtain ⟨ob, hob⟩ : ∃ ob : Obj, ob = .map (es.push { key := ρe key, val := ρe v, born := c }) (c + 1) := ⟨_, rfl⟩
          have hset := run_setMap (P := P) hh ob
          obtain ⟨q1, q2⟩ := setObj_ok (bar := bar) (o' := .map l' (Nat.succ c)) hS hL hg hbar (ob := ob) (w' := { w with heap := w.heap.setIfInBounds L.b ob }) rfl ⟨rfl, rfl, rfl⟩ (by
            simp only [ObjOk]
            exact ⟨L, es.push { key := ρe key, val := ρe v, born := c }, hL, by rw [hob]; exact set_get hh _, by simpa using hr'⟩)
          refine ⟨_, _, _, h1, .skip, undef, ρ, _, ?_, .inr ⟨rfl, rfl⟩, by simp only [Rv]; exact ⟨[], by simp [RvL], rfl⟩, q1, agree.refl _ _, Nat.le_refl _, q2⟩
          simp [execOp, ho, hu, Instr.mapUpdate, run_underlying hd, run_getMap hh, hck, Instr.findKey, run_underlying hkind, hf, ← hob, hset]
        · simp only at h1
          rw [T.set_eq] at h1
          rw [Nat.zero_add] at hf
          have he' : es[j]? = some e := by simpa using he
          have hjlt : j < es.size := (Array.getElem?_eq_some_iff.1 he').1
          obtain ⟨ob, hob⟩ : ∃ ob : Obj, ob = .map (es.modify j fun e => { e with key := ρe key, val := ρe v }) c := ⟨_, rfl⟩
          have hset := run_setMap (P := P) hh ob
          have hes : (es.modify j fun e => { e with key := ρe key, val := ρe v }).toList = es.toList.set j { e with key := ρe key, val := ρe v } := by
            apply List.ext_getElem?
            intro q
            rw [Array.getElem?_toList, Array.getElem?_modify, List.getElem?_set]
            by_cases hq : j = q
            · subst hq
              rw [if_pos rfl, if_pos rfl, if_pos (by simpa using hjlt), he']
              rfl
            · rw [if_neg hq, if_neg hq, Array.getElem?_toList]
          obtain ⟨q1, q2⟩ := setObj_ok (bar := bar) (o' := .map l' c) hS hL hg hbar (ob := ob) (w' := { w with heap := w.heap.setIfInBounds L.b ob }) rfl ⟨rfl, rfl, rfl⟩ (by
            simp only [ObjOk]
            exact ⟨L, es.modify j fun e => { e with key := ρe key, val := ρe v }, hL, by rw [hob]; exact set_get hh _, by rw [hes]; exact hr'⟩)
          have hbits : Instr.sameBits 10000 e.key (ρe key) = true := by
            revert hsame
            generalize e.key = a
            generalize ρe key = b
            intro hs
            unfold Instr.sameNow at hs
            split at hs
            · split at hs
              · simp_all [Instr.sameBits]
              · cases hs
            · simp only [Option.some.injEq] at hs
              simp only [Instr.sameBits]
              rw [beq_toListBytes] at hs ⊢
              rw [beq_iff_eq] at hs ⊢
              exact hs.symm
            · simp_all [Instr.sameBits]
            · cases hs
          refine ⟨_, _, _, h1, .skip, undef, ρ, _, ?_, .inr ⟨rfl, rfl⟩, by simp only [Rv]; exact ⟨[], by simp [RvL], rfl⟩, q1, agree.refl _ _, Nat.le_refl _, q2⟩
          simp [execOp, ho, hu, Instr.mapUpdate, run_underlying hd, run_getMap hh, hck, Instr.findKey, run_underlying hkind, hf, he', Instr.keyThatStays, hbits, ← hob, hset]
      · cases h
    · cases h
  | call c =>
    rw [ho] at h hev
    simp only [opM] at h
    split at h
    · rename_i b hc
      obtain ⟨cs, hrun⟩ := run_builtin (P := P) ho hc ρe
      obtain ⟨vs, h1, h2⟩ := evL_ok' (ρ := ρ) (n := n) (ρe := ρe) c.args.toList (fun x hx => hev x (by simp only [Op.operands, Call.operands, hc, Array.mem_append]; exact .inr (by simpa using hx))) h
      have hargs : c.args.map ρe = (c.args.toList.map ρe).toArray := by apply Array.ext'; simp
      generalize c.args.toList.map ρe = us at h2 hargs
      rw [hargs] at hrun
      cases b <;> simp only [biX] at h1 <;> try cases h1
      · -- append
        split at h1
        · rename_i x y t t' hts
          have hat : c.argTypes = #[t, t'] := by apply Array.ext'; simpa using hts
          match us, h2 with
          | [ux, uy], h2 =>
            simp only [RvL] at h2
            obtain ⟨hx, hy, _⟩ := h2
            split at h1
            · rename_i es e hes hk
              split at h1
              · rename_i ety hety
                split at h1
                · rename_i htt
                  have htt := Nat.eq_of_beq_eq_true htt
                  subst htt
                  split at h1
                  · rename_i m hm
                    rw [fN_eq] at h1
                    obtain ⟨l, xs, g1, g2, g3, g4, g5⟩ := cellsOf_ok hS hy h1
                    obtain ⟨v, g', n', q1, u, ρ', w', q2, q3, q4, q5, q6, q7⟩ := appendX_ok (bar := bar) hE hes hk hety o.type hS hx hy hm g2 g4 g3 g5 g1
                    exact ⟨v, g', n', q1, val (by rw [hrun w]; simp [Go.builtin, hat, q2]) q3 q4 q5 q6 q7⟩
                  · cases h1
                · split at h1
                  · rename_i ik kk m hk'
                    obtain ⟨d, hd, hkd⟩ := und_of hE hk' (by simp)
                    simp only [KdOk] at hkd
                    subst hkd
                    simp only [Rv] at hx hy
                    subst hx hy
                    obtain ⟨e', ety', i, z, hu, hety', hk2, hsz, hpos, hi, his, hib, hz, hzr⟩ := elem_ok hE hes
                    rw [hk] at hk2; cases hk2
                    rw [hety] at hety'; cases hety'
                    split at h1
                    · refine ⟨_, _, _, h1, val (u := .slice none 0 0) ?_ (by simp only [Rv]) hS (agree.refl _ _) (Nat.le_refl _) (Fr.refl _ _)⟩
                      rw [hrun w]
                      have hw0 : IntKind.i64.wrap 0 = 0 := by rw [IntKind.wrap_i64]; omega
                      simp [Go.builtin, hat, Builtin.append_, run_underlying hu, run_underlying hd, run_sizeOf' hi, asInt, asIntOf, typeInfo, hi, hw0]
                    · rename_i hm0
                      have hm0 : m ≠ 0 := fun e => hm0 e
                      split at h1
                      · rename_i hc2
                        simp only [Bool.and_eq_true, Nat.ble_eq, roomOk] at hc2
                        obtain ⟨hc3, hb1, hb2⟩ := hc2
                        have hb1 : m * ety.bytes ≤ 4294967296 := hb1
                        rw [fL_eq] at h1
                        unfold grown at h1
                        have hzs : z.cells.size = es := by have := (hzr ρ n).length; rw [← Array.length_toList, this, (hE.T _ _ hety).zlen, hsz]
                        have hge : m ≤ grownCap w m 0 e := grownCap_ge w m 0 e
                        have hrun2 := Lib.run_append_nil_zeros (P := P) w t t' o.type e i z kk ik hu hd hi hz m (Nat.pos_of_ne_zero hm0) (by omega) (by omega) (by rw [hib]; omega)
                        obtain ⟨g', p1, p2, p3⟩ := newRow_ok (bar := bar) (ty := e) (slack := (Builtin.zeroCells z.cells (grownCap w m 0 e - m)).toList) hS (rep_rel (hzr ρ n) m) h1
                          (w' := w.drew.alloc (.cells (Builtin.zeroCells z.cells m ++ Builtin.zeroCells z.cells (grownCap w m 0 e - m)) e)) (by
                            show w.heap.push _ = _
                            congr 2
                            apply Array.ext'
                            simp [zeroCells_eq z.cells (by omega) m]) ⟨rfl, rfl, rfl⟩
                        refine ⟨_, _, _, p1, val (by rw [hrun w]; simp [Go.builtin, hat, hrun2]; rfl) ?_ p2 (agree_put _ _ _) (Nat.le_succ _) p3⟩
                        simp only [Rv]
                        refine ⟨Nat.lt_succ_self _, hpos, _, _, 0, put_same _ _ _, rfl, hge, ?_, .inl rfl⟩
                        have hzc : (Builtin.zeroCells z.cells (grownCap w m 0 e - m)).toList.length = (grownCap w m 0 e - m) * es := by simp [Builtin.zeroCells, hzs]
                        have hzl : z.cells.toList.length = es := by simpa using hzs
                        simp only [List.length_append, repV_len, hzl, hzc, Nat.zero_add, ← Nat.add_mul]
                        congr 1; omega
                      · cases h1
                  · cases h1
              · cases h1
            · cases h1
          | [], h2 => simp [RvL] at h2
          | [_], h2 => simp [RvL] at h2
          | _ :: _ :: _ :: _, h2 => simp [RvL] at h2
        · cases h1
      · -- clear
        split at h1
        · rename_i x t hts
          have hat : c.argTypes = #[t] := by apply Array.ext'; simpa using hts
          match us, h2 with
          | [ux], h2 =>
            simp only [RvL] at h2
            obtain ⟨hx, _⟩ := h2
            have fin0 : ∀ {r'}, k (.tup []) g n = some r' → (Builtin.clear_ c.argTypes o.type #[ux]).run P w = .ok (.tuple #[]) w → ∃ v g' n', k v g' n' = some r' ∧ MOk ρ g.get n w bar ((execOp ρe o).run P w) v g'.get n' := by
              intro r' h hr
              exact ⟨_, _, _, h, val (u := .tuple #[]) (by rw [hrun w]; simp [Go.builtin, hr]) (by simp only [Rv]; exact ⟨[], by simp [RvL], rfl⟩) hS (agree.refl _ _) (Nat.le_refl _) (Fr.refl _ _)⟩
            split at h1
            · rename_i e hk
              obtain ⟨d, hd, hkd⟩ := und_of hE hk (by simp)
              simp only [KdOk] at hkd
              subst hkd
              simp only [Rv] at hx
              subst hx
              exact fin0 h1 (by simp [Builtin.clear_, hat, run_underlying hd])
            · rename_i e id es off m cap hk
              obtain ⟨d, hd, hkd⟩ := und_of hE hk (by simp)
              simp only [KdOk] at hkd
              subst hkd
              split at h1
              · have : ∃ a c', ux = .slice (some a) 0 c' := by
                  cases cap with
                  | none => simp only [Rv] at hx; obtain ⟨_, _, L, c, o, _, hu, _⟩ := hx; exact ⟨_, _, hu⟩
                  | some c => simp only [Rv] at hx; obtain ⟨_, _, _, L, _, hu⟩ := hx; exact ⟨_, _, hu⟩
                obtain ⟨a, c', rfl⟩ := this
                exact fin0 h1 (by simp [Builtin.clear_, hat, run_underlying hd])
              · rename_i hm0
                have hm0 : m ≠ 0 := fun e => hm0 e
                split at h1
                · rename_i ety hety
                  have hok := hE.T _ _ hety
                  obtain ⟨i, z, hi, his, _, hz, hzr, _⟩ := hok.info
                  split at h1
                  · rename_i hes
                    have hes := Nat.eq_of_beq_eq_true hes
                    rw [fL_eq] at h1
                    have : ∃ L c', ρ id = some L ∧ ux = .slice (some ⟨L.b, L.base + off, none⟩) m c' ∧ 0 < es := by
                      cases cap with
                      | none =>
                        simp only [Rv] at hx
                        obtain ⟨_, h0, L, c, o', hL, hu, hle, _, ho'⟩ := hx
                        have : o' = L.base + off := by
                          rcases ho' with h | h
                          · exact h
                          · omega
                        exact ⟨L, c, hL, by rw [hu, this], h0⟩
                      | some c => simp only [Rv] at hx; obtain ⟨_, h0, _, L, hL, hu⟩ := hx; exact ⟨L, c, hL, hu, h0⟩
                    obtain ⟨L, c', hL, rfl, hpos⟩ := this
                    obtain ⟨g', w', p1, p2, p3, p4, _⟩ := store_ok (P := P) hS (rep_rel (hzr ρ n) m) hL h1
                    have hzs : z.cells.size = es := by have := (hzr ρ n).length; rw [← Array.length_toList, this, hok.zlen, hes]
                    have hzc : (Builtin.zeroCells z.cells m).toList = repV m z.cells.toList := zeroCells_eq z.cells (by omega) m
                    refine ⟨_, _, _, p1, val (u := .tuple #[]) ?_ (by simp only [Rv]; exact ⟨[], by simp [RvL], rfl⟩) p2 (agree.refl _ _) (Nat.le_refl _) p3⟩
                    rw [hrun w]
                    have hcl : (Builtin.clear_ c.argTypes o.type #[.slice (some ⟨L.b, L.base + off, none⟩) m c']).run P w = .ok (.tuple #[]) w' := by
                      obtain ⟨m', rfl⟩ : ∃ m', m = m' + 1 := ⟨m - 1, by omega⟩
                      simp [Builtin.clear_, hat, run_underlying hd, run_zeroValue' hi hz, hzc, p4]
                    simp [Go.builtin, hcl]
                  · cases h1
                · cases h1
            · cases h1
          | [], h2 => simp [RvL] at h2
          | _ :: _ :: _, h2 => simp [RvL] at h2
        · cases h1
      · -- copy
        split at h1
        · rename_i x y t ts' hts
          have hat : c.argTypes[0]? = some t := by rw [← Array.getElem?_toList, hts]; rfl
          match us, h2 with
          | [ux, uy], h2 =>
            simp only [RvL] at h2
            obtain ⟨hx, hy, _⟩ := h2
            split at h1
            · rename_i es hes
              obtain ⟨v, g', w', u, q1, q2, q3, q4, q5⟩ := copyX_ok (bar := bar) hE hes hat o.type hS hx hy h1
              exact ⟨v, g', n, q1, val (by rw [hrun w]; simp [Go.builtin, q2]) q3 q4 (agree.refl _ _) (Nat.le_refl _) q5⟩
            · cases h1
          | [], h2 => simp [RvL] at h2
          | [_], h2 => simp [RvL] at h2
          | _ :: _ :: _ :: _, h2 => simp [RvL] at h2
        · cases h1
    · cases h
  | _ => rw [ho] at h; simp [opM] at h
end
end
end CX
