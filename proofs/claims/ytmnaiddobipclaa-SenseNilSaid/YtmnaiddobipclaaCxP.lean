/-
  CX: operations that look at no memory do what the executor says.
-/
import Derived.Test.YtmnaiddobipclaaCxSem
import Derived.Laws.StructEq
import Derived.WalkKit
namespace CX
open Go

def isAggD : TypeDesc → Bool
  | .struct _ => true
  | .array _ _ => true
  | _ => false

/-- A type's kind. -/
def KdOk (P : Program) : TK → TypeDesc → Prop
  | .other, d => ∀ ms, d ≠ .interface ms
  | .int k, d => d = .int k
  | .bool, d => d = .bool
  | .str, d => d = .string
  | .struct fs, d => ∃ fields, d = .struct fields ∧ fields.toList.map (fun f => (f.offset, f.type)) = fs ∧ ∀ f ∈ fields, ∃ i, P.info? f.type = some i
  | .arr n e, d => d = .array n e
  | .slice e, d => d = .slice e
  | .map k e, d => d = .map k e
  | .ptr e, d => d = .pointer e
  | .iface, _ => True

structure TyOk (P : Program) (t : Nat) (ty : Ty) : Prop where
  info : ∃ i z, P.info? t = some i ∧ i.size = ty.size ∧ i.bytes = ty.bytes ∧ i.zero = some z ∧ (∀ ρ n, RvL ρ n ty.zero z.cells.toList) ∧ (ty.agg = true → z = .agg z.cells) ∧ (ty.agg = false → z.cells = #[z])
  zlen : ty.zero.length = ty.size
  zone : ∀ v ∈ ty.zero, one1 v = true
  zt : ∀ i, i < ty.size → ty.zt.get i = ty.zero[i]?
  und : ∃ d, P.underlying t = some d ∧ isAggD d = ty.agg ∧ KdOk P ty.kd d
  eqp : ty.eqp = true → P.eqGuardType P.depth t = false ∧ ∀ (ρ : Nm) n a b xs ys r w, RvL ρ n a xs → RvL ρ n b ys → eqZ ty.zero a b = some r → (Op.equalIn 10000 t (.agg xs.toArray) (.agg ys.toArray)).run P w = .ok r w

structure EnvOk (E : Env) (P : Program) : Prop where
  T : ∀ t ty, E.T t = some ty → TyOk P t ty
  fn : ∀ f fn, E.fn f = some fn → P.funcs[f]? = some fn ∧ fn.name ≠ "runtime.NumGoroutine"
  mixed : P.follows .mixedOrders = true

theorem kind_ok {E : Env} {t : Nat} {k : TK} (h : kindOf E t = k) (hk : k ≠ .other) : ∃ ty, E.T t = some ty ∧ ty.kd = k := by
  unfold kindOf at h
  split at h
  · rename_i ty hty; exact ⟨ty, hty, h⟩
  · exact absurd h.symm hk

theorem und_of {E : Env} {P : Program} (hE : EnvOk E P) {t : Nat} {k : TK} (h : kindOf E t = k) (hk : k ≠ .other) : ∃ d, P.underlying t = some d ∧ KdOk P k d := by
  obtain ⟨ty, hty, h⟩ := kind_ok h hk
  obtain ⟨d, h1, _, h2⟩ := (hE.T t ty hty).und
  exact ⟨d, h1, by rw [← h]; exact h2⟩

theorem add_add (a : Addr) (n k : Nat) : (a.add n).add k = a.add (n + k) := by
  unfold Addr.add
  split <;> split <;> simp_all [Nat.add_assoc]
theorem add_at (b o n : Nat) : (⟨b, o, none⟩ : Addr).add n = ⟨b, o + n, none⟩ := by
  unfold Addr.add
  split <;> simp_all

theorem run_isAgg' {P : Program} {t : Nat} {d : TypeDesc} (h : P.underlying t = some d) (w : World) : (isAgg t).run P w = .ok (isAggD d) w := by
  simp only [isAgg, Sem.run_bind, run_underlying h, Result.andThen_ok]
  cases d <;> rfl
theorem run_sizeOf' {P : Program} {t : Nat} {i : TypeInfo} (h : P.info? t = some i) (w : World) : (Go.sizeOf t).run P w = .ok i.size w := by
  simp [Go.sizeOf, typeInfo, h]
theorem run_zeroValue' {P : Program} {t : Nat} {i : TypeInfo} {z : Value} (h : P.info? t = some i) (hz : i.zero = some z) (w : World) : (zeroValue t).run P w = .ok z w := by
  simp [zeroValue, typeInfo, h, hz]

theorem flat_cells {ρ : Nm} {n : Nat} {v : V} {u : Value} (h : Rv ρ n v u) (ho : ∀ x ∈ flat v, one1 x = true) : RvL ρ n (flat v) u.cells.toList := by
  cases v with
  | agg l =>
    simp only [Rv] at h
    obtain ⟨x, h1, rfl⟩ := h
    simpa [flat, Value.cells] using h1
  | tup l => simp [flat, one1] at ho
  | slc id es off ln c => cases c <;> (simp only [Rv] at h; obtain ⟨_, _, h⟩ := h)
                          · obtain ⟨L, c, o, h1, rfl, _⟩ := h
                            exact ⟨by simp only [Rv]; exact ⟨by assumption, by assumption, L, c, o, h1, rfl, by assumption⟩, trivial⟩
                          · obtain ⟨h0, L, h1, rfl⟩ := h
                            exact ⟨by simp only [Rv]; exact ⟨by assumption, by assumption, h0, L, h1, rfl⟩, trivial⟩
  | fn f a b =>
    have h0 := h
    cases f with
    | func f => simp only [Rv] at h; obtain ⟨x, y, _, _, rfl⟩ := h; exact ⟨h0, trivial⟩
    | yield f => simp only [Rv] at h; obtain ⟨_, L, x, y, _, _, _, rfl⟩ := h; exact ⟨h0, trivial⟩
  | int k x => have h0 := h; simp only [Rv] at h; subst h; exact ⟨h0, trivial⟩
  | bool b => have h0 := h; simp only [Rv] at h; subst h; exact ⟨h0, trivial⟩
  | str s => have h0 := h; simp only [Rv] at h; obtain ⟨_, rfl⟩ := h; exact ⟨h0, trivial⟩
  | ptr id off => have h0 := h; simp only [Rv] at h; obtain ⟨_, L, _, rfl⟩ := h; exact ⟨h0, trivial⟩
  | nilp => have h0 := h; simp only [Rv] at h; subst h; exact ⟨h0, trivial⟩
  | nils => have h0 := h; simp only [Rv] at h; subst h; exact ⟨h0, trivial⟩
  | map id => have h0 := h; simp only [Rv] at h; obtain ⟨_, L, _, rfl⟩ := h; exact ⟨h0, trivial⟩
  | nilm => have h0 := h; simp only [Rv] at h; subst h; exact ⟨h0, trivial⟩
  | nilf => have h0 := h; simp only [Rv] at h; subst h; exact ⟨h0, trivial⟩
  | iface t v => have h0 := h; simp only [Rv] at h; obtain ⟨x, _, rfl⟩ := h; exact ⟨h0, trivial⟩
  | nili => have h0 := h; simp only [Rv] at h; subst h; exact ⟨h0, trivial⟩
  | raw x =>
    have h0 := h
    simp only [Rv] at h
    obtain ⟨rfl, h1⟩ := h
    cases u <;> first | exact ⟨h0, trivial⟩ | simp [Value.oneCell'] at h1

theorem oneAll_iff : ∀ l : List V, oneAll l = true ↔ ∀ v ∈ l, one1 v = true
  | [] => by simp [oneAll]
  | v :: l => by
    simp only [oneAll]
    split
    · rename_i h; simp [h, oneAll_iff l]
    · rename_i h; simp [h]

/-! ### Equal values -/

theorem bytesOf_inj {a b : List Nat} (ha : ∀ x ∈ a, x < 256) (hb : ∀ x ∈ b, x < 256) (h : bytesOf a = bytesOf b) : a = b := by
  have h1 : a.map UInt8.ofNat = b.map UInt8.ofNat := by
    have := congrArg (fun z : ByteArray => z.data.toList) h
    simpa [bytesOf] using this
  have key : ∀ l : List Nat, (∀ x ∈ l, x < 256) → (l.map UInt8.ofNat).map UInt8.toNat = l := by
    intro l hl
    induction l with
    | nil => rfl
    | cons x l ih =>
      have hx := hl x (by simp)
      rw [List.map_cons, List.map_cons, ih (fun y hy => hl y (by simp [hy]))]
      simp [Nat.mod_eq_of_lt hx]
  rw [← key a ha, ← key b hb, h1]

theorem bytesOf_size (s : List Nat) : (bytesOf s).size = s.length := by simp [bytesOf, ByteArray.size]

theorem beq_bytes {a b : List Nat} (ha : ∀ x ∈ a, x < 256) (hb : ∀ x ∈ b, x < 256) : ((bytesOf a).toList == (bytesOf b).toList) = lEq a b := by
  rw [Bool.eq_iff_iff, lEq_iff, beq_iff_eq, ByteArray.toList_eq, ByteArray.toList_eq]
  exact ⟨fun h => bytesOf_inj ha hb (ByteArray.ext (Array.toList_inj.mp h)), fun h => by rw [h]⟩

theorem run_equalIn_ptr {P : Program} (w : World) (d : Nat) (t e : TypeId) (h : P.underlying t = some (.pointer e)) (a : Addr) : (Op.equalIn (d + 1) t (.pointer (some a)) (.pointer none)).run P w = .ok false w := by
  simp [Op.equalIn, run_underlying h]
theorem run_equalIn_ptr0 {P : Program} (w : World) (d : Nat) (t e : TypeId) (h : P.underlying t = some (.pointer e)) : (Op.equalIn (d + 1) t (.pointer none) (.pointer none)).run P w = .ok true w := by
  simp [Op.equalIn, run_underlying h]
theorem run_equalIn_sl {P : Program} (w : World) (d : Nat) (t e : TypeId) (h : P.underlying t = some (.slice e)) (a : Addr) (n c n' c' : Nat) : (Op.equalIn (d + 1) t (.slice (some a) n c) (.slice none n' c')).run P w = .ok false w := by
  simp [Op.equalIn, run_underlying h]
theorem run_equalIn_sl0 {P : Program} (w : World) (d : Nat) (t e : TypeId) (h : P.underlying t = some (.slice e)) (n c n' c' : Nat) : (Op.equalIn (d + 1) t (.slice none n c) (.slice none n' c')).run P w = .ok true w := by
  simp [Op.equalIn, run_underlying h]

theorem fdiv_pow (a : Int) (m : Nat) : a.fdiv (2 ^ m) = match a with
    | .ofNat a => Int.ofNat (Nat.div a (Nat.pow 2 m))
    | .negSucc a => Int.negSucc (Nat.div a (Nat.pow 2 m)) := by
  have h0 : (0 : Int) ≤ 2 ^ m := Int.pow_nonneg (by omega)
  have hp : (2 : Int) ^ m = ((2 ^ m : Nat) : Int) := by simp
  rw [Int.fdiv_eq_ediv_of_nonneg _ h0]
  cases a with
  | ofNat a => rw [hp]; rfl
  | negSucc a =>
    rw [hp]
    have : (2 ^ m : Nat) = Nat.succ (2 ^ m - 1) := by have := Nat.two_pow_pos m; omega
    rw [this]
    show Int.negSucc (a / (2 ^ m - 1).succ) = Int.negSucc (a / 2 ^ m)
    rw [← this]

section
variable {P : Program} {E : Env} (hE : EnvOk E P) {ρ : Nm} {n : Nat}
include hE

theorem vEq_ok {t : Nat} {x y : V} {u u' : Value} {b : Bool} (h : vEq E t x y = some b) (hx : Rv ρ n x u) (hy : Rv ρ n y u') {a a' : Operand} :
    ∀ w, (do eqGuard .eql t a a' u u'; binOp .eql t u u' : Sem Value).run P w = .ok (.bool b) w ∧ (do eqGuard .neq t a a' u u'; binOp .neq t u u' : Sem Value).run P w = .ok (.bool !b) w := by
  intro w
  have viaEqual : ∀ {u u' : Value}, (∀ k a, u ≠ .int k a) → (∀ k a, u ≠ .float k a) → (∀ k a b, u ≠ .complex k a b) → (∀ s, u ≠ .string s) → (u ≠ .nilIface) → (∀ x, u ≠ .agg x) →
      (Op.equalIn 10000 t u u').run P w = .ok b w →
      (do eqGuard .eql t a a' u u'; binOp .eql t u u' : Sem Value).run P w = .ok (.bool b) w ∧ (do eqGuard .neq t a a' u u'; binOp .neq t u u' : Sem Value).run P w = .ok (.bool !b) w := by
    intro u u' h1 h2 h3 h4 h5 h6 hq
    have hg : ∀ op, (eqGuard op t a a' u u').run P w = .ok () w := by
      intro op
      cases u <;> simp_all [eqGuard] <;> split <;> rfl
    have hb1 : binOp .eql t u u' = (do pure (.bool (← Op.equal t u u'))) := by
      cases u <;> simp_all [binOp]
    have hb2 : binOp .neq t u u' = (do pure (.bool (!(← Op.equal t u u')))) := by
      cases u <;> simp_all [binOp]
    have he : (Op.equal t u u').run P w = .ok b w := hq
    constructor
    · rw [Sem.run_bind, hg, Result.andThen_ok, hb1, Sem.run_bind, he, Result.andThen_ok, Sem.run_pure]
    · rw [Sem.run_bind, hg, Result.andThen_ok, hb2, Sem.run_bind, he, Result.andThen_ok, Sem.run_pure]
  unfold vEq at h
  split at h
  · simp only [Rv] at hx hy
    subst hx hy
    simp only [eq1] at h
    split at h
    · rename_i hk
      have := kindEq_ok hk
      subst this
      simp only [Option.some.injEq, ieq_eq] at h
      subst h
      constructor <;> simp [eqGuard, binOp, Op.intCmp, bne]
    · cases h
  · simp only [Rv] at hx hy
    obtain ⟨h1, rfl⟩ := hx
    obtain ⟨h2, rfl⟩ := hy
    simp only [Option.some.injEq] at h
    subst h
    constructor <;> simp [eqGuard, binOp, Op.stringOp, beq_bytes h1 h2]
  · rename_i p q
    simp only [Rv] at hx hy
    subst hx hy
    split at h
    · rename_i hk
      obtain ⟨d, hd, hkd⟩ := und_of hE hk (by simp)
      simp only [KdOk] at hkd
      subst hkd
      refine viaEqual (by simp) (by simp) (by simp) (by simp) (by simp) (by simp) ?_
      refine (run_equalIn_bool' (w := w) 9999 _ _ _ hd).trans ?_
      cases p <;> cases q <;> simp_all [eq1]
    · cases h
  · simp only [Rv] at hx hy
    obtain ⟨_, L, _, rfl⟩ := hx
    subst hy
    split at h
    · rename_i e hk
      obtain ⟨d, hd, hkd⟩ := und_of hE hk (by simp)
      simp only [KdOk] at hkd
      subst hkd
      simp only [Option.some.injEq] at h
      subst h
      exact viaEqual (by simp) (by simp) (by simp) (by simp) (by simp) (by simp) (run_equalIn_ptr w 9999 _ _ hd _)
    · cases h
  · simp only [Rv] at hx hy
    subst hx hy
    split at h
    · rename_i e hk
      obtain ⟨d, hd, hkd⟩ := und_of hE hk (by simp)
      simp only [KdOk] at hkd
      subst hkd
      simp only [Option.some.injEq] at h
      subst h
      exact viaEqual (by simp) (by simp) (by simp) (by simp) (by simp) (by simp) (run_equalIn_ptr0 w 9999 _ _ hd)
    · cases h
  · simp only [Rv] at hx hy
    subst hx hy
    split at h
    · rename_i e hk
      obtain ⟨d, hd, hkd⟩ := und_of hE hk (by simp)
      simp only [KdOk] at hkd
      subst hkd
      simp only [Option.some.injEq] at h
      subst h
      exact viaEqual (by simp) (by simp) (by simp) (by simp) (by simp) (by simp) (run_equalIn_sl0 w 9999 _ _ hd _ _ _ _)
    · cases h
  · rename_i id es off ln c
    have hs : ∃ a ln c, u = .slice (some a) ln c := by
      cases c <;> (simp only [Rv] at hx)
      · obtain ⟨_, _, L, c, o, _, rfl, _⟩ := hx; exact ⟨_, _, _, rfl⟩
      · obtain ⟨_, _, _, L, _, rfl⟩ := hx; exact ⟨_, _, _, rfl⟩
    obtain ⟨ad, ln', c', rfl⟩ := hs
    simp only [Rv] at hy
    subst hy
    split at h
    · rename_i e hk
      obtain ⟨d, hd, hkd⟩ := und_of hE hk (by simp)
      simp only [KdOk] at hkd
      subst hkd
      simp only [Option.some.injEq] at h
      subst h
      exact viaEqual (by simp) (by simp) (by simp) (by simp) (by simp) (by simp) (run_equalIn_sl w 9999 _ _ hd _ _ _ _ _)
    · cases h
  · simp only [Rv] at hx hy
    obtain ⟨xs, hxs, rfl⟩ := hx
    obtain ⟨ys, hys, rfl⟩ := hy
    split at h
    · rename_i ty hty
      split at h
      · rename_i he
        obtain ⟨h1, h2⟩ := (hE.T t ty hty).eqp he
        have h3 := h2 ρ n _ _ _ _ b w hxs hys h
        constructor
        · rw [Sem.run_bind, run_eqGuard_agg (w := w) .eql t a a' _ _ h1, Result.andThen_ok, run_eql_struct (w := w), h3, Result.andThen_ok]
        · rw [Sem.run_bind, run_eqGuard_agg (w := w) .neq t a a' _ _ h1, Result.andThen_ok, run_neq_struct (w := w), h3, Result.andThen_ok]
      · cases h
    · cases h
  · cases h

theorem bin_ok {o : Oper} {ρe : Operand → Value} {op : BinOp} {t ty : Nat} {x y : Operand} (ho : o.op = .binOp op t x y ty) {a b : V} (hx : Rv ρ n a (ρe x)) (hy : Rv ρ n b (ρe y))
    {k : V → R} {r : Ex × St} (h : bin E op t a b k = some r) : ∃ v u, k v = some r ∧ Rv ρ n v u ∧ ∀ w, (execOp ρe o).run P w = .ok (.value u) w := by
  have key : ∀ v u, k v = some r → Rv ρ n v u → (∀ w, (do eqGuard op t x y (ρe x) (ρe y); binOp op t (ρe x) (ρe y) : Sem Value).run P w = .ok u w) → ∃ v u, k v = some r ∧ Rv ρ n v u ∧ ∀ w, (execOp ρe o).run P w = .ok (.value u) w := by
    intro v u h1 h2 h3
    refine ⟨v, u, h1, h2, fun w => ?_⟩
    have := h3 w
    simp only [execOp, ho, Sem.run_bind] at this ⊢
    rw [this]; rfl
  unfold bin at h
  split at h
  · split at h
    · rename_i c hc
      rw [fB_eq] at h
      exact key _ (.bool c) h rfl fun w => (vEq_ok hE hc hx hy w).1
    · cases h
  · split at h
    · rename_i c hc
      rw [fB_eq] at h
      cases c
      · exact key _ (.bool true) h rfl fun w => (vEq_ok hE hc hx hy w).2
      · exact key _ (.bool false) h rfl fun w => (vEq_ok hE hc hx hy w).2
    · cases h
  · rename_i hne1 hne2
    have hg : ∀ u u' w, (eqGuard op t x y u u').run P w = .ok () w := by
      intro u u' w
      cases op <;> simp_all [eqGuard]
    have key : ∀ v u, k v = some r → Rv ρ n v u → (∀ w, (binOp op t (ρe x) (ρe y)).run P w = .ok u w) → ∃ v u, k v = some r ∧ Rv ρ n v u ∧ ∀ w, (execOp ρe o).run P w = .ok (.value u) w := by
      intro v u h1 h2 h3
      refine key v u h1 h2 fun w => ?_
      rw [Sem.run_bind, hg, Result.andThen_ok, h3 w]
    split at h
    · rename_i kd a' kd' b'
      simp only [Rv] at hx hy
      rw [hx, hy] at key
      have keyB : ∀ m, k (.bool m) = some r → (∀ w, (binOp op t (.int kd a') (.int kd' b')).run P w = .ok (.bool m) w) → ∃ v u, k v = some r ∧ Rv ρ n v u ∧ ∀ w, (execOp ρe o).run P w = .ok (.value u) w :=
        fun m h1 h2 => key _ _ h1 (by simp only [Rv]) h2
      have key : ∀ m, k (.int kd m) = some r → (∀ w, (binOp op t (.int kd a') (.int kd' b')).run P w = .ok (.int kd m) w) → ∃ v u, k v = some r ∧ Rv ρ n v u ∧ ∀ w, (execOp ρe o).run P w = .ok (.value u) w :=
        fun m h1 h2 => key _ _ h1 (by simp only [Rv]) h2
      split at h
      · split at h
        · rename_i hb
          rw [wr_eq] at h
          rw [ile_eq] at hb
          have hb : 0 ≤ b' := by simpa using hb
          exact key _ h fun w => by simp [binOp, Op.shift, Int.not_lt.2 hb]
        · cases h
      · split at h
        · rename_i hb
          rw [fI_eq] at h
          rw [ile_eq] at hb
          have hb : 0 ≤ b' := by simpa using hb
          refine key _ h fun w => ?_
          simp only [binOp, Op.shift, Int.not_lt.2 hb, if_false, Sem.run_pure]
          congr 2
          exact fdiv_pow a' _
        · cases h
      · rename_i hn1 hn2
        split at h
        · cases h
        · rename_i hk
          have hk := kindEq_ok hk
          subst hk
          split at h
          · rw [wr_eq] at h
            exact key _ h fun w => by simp [binOp, Op.intArith]
          · rw [wr_eq] at h
            exact key _ h fun w => by simp [binOp, Op.intArith]; rfl
          · rw [wr_eq] at h
            exact key _ h fun w => by simp [binOp, Op.intArith]
          · split at h
            · cases h
            · rename_i hz
              rw [wr_eq] at h
              have hz : b' ≠ 0 := by rw [iz_eq] at hz; simpa using hz
              exact key _ h fun w => by simp [binOp, Op.intDiv, hz]
          · split at h
            · cases h
            · rename_i hz
              rw [fI_eq] at h
              have hz : b' ≠ 0 := by rw [iz_eq] at hz; simpa using hz
              exact key _ h fun w => by simp [binOp, Op.intDiv, hz]
          · rw [fB_eq, ile_eq] at h
            refine keyB (decide (a' < b')) ?_ fun w => by simp [binOp, Op.intCmp]
            rw [← h]
            by_cases hc : a' < b'
            · simp [hc, Int.not_le.2 hc]
            · simp [hc, Int.not_lt.1 hc]
          · rw [fB_eq, ile_eq] at h
            exact keyB (decide (b' ≤ a')) h fun w => by simp [binOp, Op.intCmp]
          · rw [fB_eq, ile_eq] at h
            refine keyB (decide (b' < a')) ?_ fun w => by simp [binOp, Op.intCmp]
            rw [← h]
            by_cases hc : b' < a'
            · simp [hc, Int.not_le.2 hc]
            · simp [hc, Int.not_lt.1 hc]
          · rw [fB_eq, ile_eq] at h
            exact keyB (decide (a' ≤ b')) h fun w => by simp [binOp, Op.intCmp]
          · rw [fI_eq] at h
            exact key _ h fun w => by simp [binOp, Op.intBits, bitX]
          · rw [fI_eq] at h
            exact key _ h fun w => by simp [binOp, Op.intBits, bitX]
          · rw [fI_eq] at h
            exact key _ h fun w => by simp [binOp, Op.intBits, bitX]
          · rw [fI_eq] at h
            exact key _ h fun w => by simp [binOp, Op.intBits, bitX]
          · cases h
    · cases h

omit hE in
theorem un_ok {o : Oper} {ρe : Operand → Value} {op : UnOp} {t : Nat} {x : Operand} (ho : o.op = .unOp op t x) {a : V} (hx : Rv ρ n a (ρe x))
    {k : V → R} {r : Ex × St} (h : un op a k = some r) : ∃ v u, k v = some r ∧ Rv ρ n v u ∧ ∀ w, (execOp ρe o).run P w = .ok (.value u) w := by
  unfold un at h
  split at h
  · rename_i kd m
    rw [wr_eq] at h
    simp only [Rv] at hx
    refine ⟨_, .int kd (kd.wrap (Int.neg m)), h, by simp only [Rv], fun w => ?_⟩
    simp [execOp, ho, hx, Op.unary, Op.intArith]
    rfl
  · simp only [Rv] at hx
    split at h
    · exact ⟨_, .bool false, h, by simp only [Rv], fun w => by simp [execOp, ho, hx, Op.unary]⟩
    · exact ⟨_, .bool true, h, by simp only [Rv], fun w => by simp [execOp, ho, hx, Op.unary]⟩
  · cases h
end

/-! ### Parts -/

theorem over_len : ∀ (l : List V) (n : Nat) (vs : List V), (over l n vs).length = l.length
  | l, n, [] => by cases l <;> cases n <;> simp [over]
  | [], _, _ :: _ => by simp [over]
  | _ :: l, 0, v :: vs => by simp [over, over_len l 0 vs]
  | _ :: l, n + 1, v :: vs => by simp [over, over_len l n (v :: vs)]

theorem over_mem {p : V → Prop} : ∀ (l : List V) (n : Nat) (vs : List V), (∀ x ∈ l, p x) → (∀ x ∈ vs, p x) → ∀ x ∈ over l n vs, p x
  | l, n, [], h, _ => by cases l <;> cases n <;> (simp only [over]; exact h)
  | [], _, _ :: _, _, _ => by simp [over]
  | y :: l, 0, v :: vs, h, hv => by
    simp only [over]
    intro x hx
    rcases List.mem_cons.1 hx with rfl | hx
    · exact hv _ (by simp)
    · exact over_mem l 0 vs (fun x hx => h x (by simp [hx])) (fun x hx => hv x (by simp [hx])) x hx
  | y :: l, n + 1, v :: vs, h, hv => by
    simp only [over]
    intro x hx
    rcases List.mem_cons.1 hx with rfl | hx
    · exact h _ (by simp)
    · exact over_mem l n (v :: vs) (fun x hx => h x (by simp [hx])) hv x hx

/-- the same of values -/
def overV : List Value → Nat → List Value → List Value
  | l, _, [] => l
  | [], _, _ => []
  | _ :: r, 0, v :: vs => v :: overV r 0 vs
  | x :: r, n + 1, v :: vs => x :: overV r n (v :: vs)

theorem over_rel {ρ : Nm} {m : Nat} : ∀ (l : List V) (n : Nat) (vs : List V) (x : List Value) (xs : List Value), RvL ρ m l x → RvL ρ m vs xs → RvL ρ m (over l n vs) (overV x n xs)
  | l, n, [], x, [], h, _ => by cases l <;> cases n <;> cases x <;> first | exact h | (simp [over, overV]; done) | (simp only [over, overV]; exact h)
  | [], _, _ :: _, [], _ :: _, _, _ => by simp [over, overV, RvL]
  | _ :: l, 0, v :: vs, _ :: x, u :: us, h, hv => by
    simp only [over, overV, RvL] at *
    exact ⟨hv.1, over_rel l 0 vs x us h.2 hv.2⟩
  | _ :: l, n + 1, v :: vs, _ :: x, u :: us, h, hv => by
    simp only [over, overV, RvL] at *
    exact ⟨h.1, over_rel l n (v :: vs) x (u :: us) h.2 (by simp only [RvL]; exact hv)⟩
  | _, _, [], _, _ :: _, _, h => by simp [RvL] at h
  | _, _, _ :: _, _, [], _, h => by simp [RvL] at h
  | [], _, _ :: _, _ :: _, _ :: _, h, _ => by simp [RvL] at h
  | _ :: _, _, _ :: _, [], _ :: _, h, _ => by simp [RvL] at h

theorem overV_set : ∀ (l : List Value) (n : Nat) (v : Value) (vs : List Value), n + (vs.length + 1) ≤ l.length → overV l n (v :: vs) = overV (l.set n v) (n + 1) vs
  | [], n, v, vs, h => by simp at h
  | x :: l, 0, v, [], h => by simp [overV]
  | x :: l, 0, v, u :: vs, h => by
    simp only [overV, List.set_cons_zero]
  | x :: l, n + 1, v, [], h => by
    have := overV_set l n v [] (by simp at h ⊢; omega)
    simp only [overV, List.set_cons_succ] at *
    rw [this]
  | x :: l, n + 1, v, u :: vs, h => by
    have := overV_set l n v (u :: vs) (by simp at h ⊢; omega)
    simp only [overV, List.set_cons_succ] at *
    rw [this]

theorem foldl_over (off : Nat) : ∀ (vs : List Value) (k : Nat) (cs : Array Value), off + k + vs.length ≤ cs.size →
    (List.foldl (fun (cs : Array Value) (p : Value × Nat) => cs.setIfInBounds (off + p.2) p.1) cs (vs.zipIdx k)) = (overV cs.toList (off + k) vs).toArray
  | [], k, cs, _ => by simp [overV]
  | v :: vs, k, cs, h => by
    rw [List.zipIdx_cons, List.foldl_cons, foldl_over off vs (k + 1) _ (by simp at h ⊢; omega), overV_set _ _ _ _ (by simp at h ⊢; omega)]
    simp [Nat.add_assoc]

theorem fill_foldl (cells : Array Value) (off : Nat) (c : Array Value) (h : off + c.size ≤ cells.size) :
    c.zipIdx.foldl (fun cs (p : Value × Nat) => cs.setIfInBounds (off + p.2) p.1) cells = (overV cells.toList off c.toList).toArray := by
  have := foldl_over off c.toList 0 cells (by simpa using h)
  rw [Nat.add_zero] at this
  rw [← this, ← Array.foldl_toList]
  simp [Array.toList_zipIdx]

theorem mapM_get {α β : Type} {g : α → Option β} : ∀ {l : List α} {r : List β}, l.mapM g = some r → ∀ (i : Nat) (x : α), l[i]? = some x → ∃ y, g x = some y ∧ r[i]? = some y
  | [], r, h, i, x, hx => by simp at hx
  | a :: l, r, h, i, x, hx => by
    rw [List.mapM_cons] at h
    cases hg : g a with
    | none => rw [hg] at h; cases h
    | some b =>
      cases hl : l.mapM g with
      | none => rw [hg, hl] at h; cases h
      | some bs =>
        rw [hg, hl] at h
        simp only [Option.bind_eq_bind, Option.bind_some, Option.pure_def, Option.some.injEq] at h
        subst h
        cases i with
        | zero => simp only [List.getElem?_cons_zero, Option.some.injEq] at hx ⊢; subst hx; exact ⟨b, hg, rfl⟩
        | succ i => simpa using mapM_get hl i x (by simpa using hx)

theorem len_of_flat {ρ : Nm} {n : Nat} {v : V} {u : Value} (h : RvL ρ n (flat v) u.cells.toList) : u.cells.size = (flat v).length := by
  have := h.length; simpa using this

section
variable {P : Program} {E : Env} (hE : EnvOk E P) {ρ : Nm} {n : Nat} {ev : Operand → Option V} {ρe : Operand → Value}
include hE

omit hE in
theorem fillS_ok {fs : List (Nat × Nat)} {place : Nat → Option (Nat × Nat)} (hplace : ∀ (i o t : Nat) (ty : Ty), fs[i]? = some (o, t) → E.T t = some ty → place i = some (o, ty.size)) :
    ∀ (ps : List (Nat × Operand)) (l : List V) (x : List Value) {k : List V → R} {r : Ex × St}, (∀ p ∈ ps, ∀ v, ev p.2 = some v → Rv ρ n v (ρe p.2)) → RvL ρ n l x → (∀ v ∈ l, one1 v = true) →
    fillS E fs ev ps l k = some r → ∃ l' x', k l' = some r ∧ RvL ρ n l' x' ∧ (∀ v ∈ l', one1 v = true) ∧ l'.length = l.length ∧ Instr.fill place x.toArray (ps.map fun p => (p.1, ρe p.2)) = some x'.toArray
  | [], l, x, k, r, _, hl, ho, h => ⟨l, x, h, hl, ho, rfl, rfl⟩
  | (i, y) :: ps, l, x, k, r, hev, hl, ho, h => by
    simp only [fillS] at h
    split at h
    · rename_i o ft v hi hv
      rw [nth_eq] at hi
      split at h
      · rename_i ty hty
        split at h
        · rename_i hc
          simp only [Bool.and_eq_true, Nat.beq_eq, Nat.ble_eq, len_eq] at hc
          obtain ⟨⟨h1, h2⟩, h3⟩ := hc
          have h3 := (oneAll_iff _).1 h3
          have hr := flat_cells (hev (i, y) (by simp) v hv) h3
          have hsz := len_of_flat hr
          have hxl := hl.length
          obtain ⟨l', x', g1, g2, g3, g4, g5⟩ := fillS_ok hplace ps (over l o (flat v)) (overV x o (ρe y).cells.toList) (fun p hp => hev p (by simp [hp])) (over_rel _ _ _ _ _ hl hr) (over_mem _ _ _ ho h3) h
          refine ⟨l', x', g1, g2, g3, by rw [g4, over_len], ?_⟩
          rw [← g5]
          have hp := hplace i o ft ty hi hty
          have h2 : o + (flat v).length ≤ l.length := h2
          simp only [List.map_cons, Instr.fill, hp, hsz, h1]
          rw [if_neg (by simp [hxl, ← h1]; omega), fill_foldl _ _ _ (by simp [hsz, hxl]; omega)]
        · cases h
      · cases h
    · cases h

omit hE in
theorem fillA_ok {es : Nat} : ∀ (ps : List (Nat × Operand)) (l : List V) (x : List Value) {k : List V → R} {r : Ex × St}, (∀ p ∈ ps, ∀ v, ev p.2 = some v → Rv ρ n v (ρe p.2)) → RvL ρ n l x → (∀ v ∈ l, one1 v = true) →
    fillA es ev ps l k = some r → ∃ l' x', k l' = some r ∧ RvL ρ n l' x' ∧ (∀ v ∈ l', one1 v = true) ∧ l'.length = l.length ∧
      Instr.fill (fun i => some (i * es, es)) x.toArray (ps.map fun p => (p.1, ρe p.2)) = some x'.toArray
  | [], l, x, k, r, _, hl, ho, h => ⟨l, x, h, hl, ho, rfl, rfl⟩
  | (i, y) :: ps, l, x, k, r, hev, hl, ho, h => by
    simp only [fillA] at h
    split at h
    · rename_i v hv
      split at h
      · rename_i hc
        simp only [Bool.and_eq_true, Nat.beq_eq, Nat.ble_eq, len_eq] at hc
        obtain ⟨⟨h1, h2⟩, h3⟩ := hc
        have h3 := (oneAll_iff _).1 h3
        have hr := flat_cells (hev (i, y) (by simp) v hv) h3
        have hsz := len_of_flat hr
        have hxl := hl.length
        have h2 : i * es + (flat v).length ≤ l.length := h2
        obtain ⟨l', x', g1, g2, g3, g4, g5⟩ := fillA_ok ps (over l (i * es) (flat v)) (overV x (i * es) (ρe y).cells.toList) (fun p hp => hev p (by simp [hp])) (over_rel _ _ _ _ _ hl hr) (over_mem _ _ _ ho h3) h
        refine ⟨l', x', g1, g2, g3, by rw [g4, over_len], ?_⟩
        rw [← g5]
        simp only [List.map_cons, Instr.fill, hsz, h1]
        have h7 : i * es + es ≤ x.length := by rw [hxl, ← h1]; rw [← h1] at h2; exact h2
        rw [if_neg (by simp [h7]), fill_foldl _ _ _ (by simp [hsz, h1]; exact h7)]
      · cases h
    · cases h

theorem build_ok {o : Oper} {t : Nat} {ps : Array (Nat × Operand)} (ho : o.op = .build t ps) (hev : ∀ p ∈ ps.toList, ∀ v, ev p.2 = some v → Rv ρ n v (ρe p.2))
    {k : V → R} {r : Ex × St} (h : opP E ev (.build t ps) k = some r) : ∃ v u, k v = some r ∧ Rv ρ n v u ∧ ∀ w, (execOp ρe o).run P w = .ok (.value u) w := by
  simp only [opP] at h
  split at h
  · rename_i ty hty
    have hok := hE.T _ _ hty
    obtain ⟨i, z, hi, hs, hb, hz, hzr, _⟩ := hok.info
    obtain ⟨d, hd, hag, hkd⟩ := hok.und
    have hzr := hzr ρ n
    split at h
    · rename_i fs hfs
      rw [hfs] at hkd
      simp only [KdOk] at hkd
      obtain ⟨fields, rfl, hmap, hinf⟩ := hkd
      obtain ⟨places, hpl⟩ : ∃ places : List (Nat × Nat), fields.toList.mapM (fun f => (P.info? f.type).map fun i => (f.offset, i.size)) = some places := by
        have : ∀ l : List Field, (∀ f ∈ l, ∃ i, P.info? f.type = some i) → ∃ places : List (Nat × Nat), l.mapM (fun f => (P.info? f.type).map fun i => (f.offset, i.size)) = some places := by
          intro l
          induction l with
          | nil => exact fun _ => ⟨[], rfl⟩
          | cons f l ih =>
            intro hl
            obtain ⟨i, hi⟩ := hl f (by simp)
            obtain ⟨ps, hps⟩ := ih (fun f hf => hl f (by simp [hf]))
            exact ⟨(f.offset, i.size) :: ps, by simp [hi, hps]⟩
        exact this _ (fun f hf => hinf f (by simpa using hf))
      have hplace : ∀ (i o t : Nat) (ty : Ty), fs[i]? = some (o, t) → E.T t = some ty → places[i]? = some (o, ty.size) := by
        intro i o t ty hio hty
        rw [← hmap, List.getElem?_map] at hio
        cases hf : fields.toList[i]? with
        | none => rw [hf] at hio; cases hio
        | some f =>
          rw [hf] at hio
          simp only [Option.map_some, Option.some.injEq, Prod.mk.injEq] at hio
          obtain ⟨p, hp1, hp2⟩ := mapM_get hpl i f hf
          obtain ⟨j, _, hj, hjs, _⟩ := (hE.T _ _ hty).info
          rw [hio.2, hj] at hp1
          simp only [Option.map_some, Option.some.injEq] at hp1
          rw [hp2, ← hp1, hio.1, hjs]
      obtain ⟨l', x', g1, g2, g3, g4, g5⟩ := fillS_ok (E := E) (place := (places[·]?)) hplace ps.toList ty.zero z.cells.toList hev hzr hok.zone h
      rw [fL_eq] at g1
      refine ⟨_, .agg x'.toArray, g1, by simp only [Rv]; exact ⟨x', g2, rfl⟩, fun w => ?_⟩
      have e : z.cells.toList.toArray = z.cells := by simp
      rw [e] at g5
      simp [execOp, ho, Instr.build, run_underlying hd, typeInfo, zeroValue, hi, hz, Array.mapM_eq_mapM_toList, run_places w _ _ hpl]
      rw [g5]
      simp
    · rename_i m e hfs
      rw [hfs] at hkd
      simp only [KdOk] at hkd
      subst hkd
      split at h
      · rename_i ety hety
        obtain ⟨j, _, hj, hjs, _⟩ := (hE.T _ _ hety).info
        obtain ⟨l', x', g1, g2, g3, g4, g5⟩ := fillA_ok (ρ := ρ) (n := n) (ρe := ρe) ps.toList ty.zero z.cells.toList hev hzr hok.zone h
        rw [fL_eq] at g1
        refine ⟨_, .agg x'.toArray, g1, by simp only [Rv]; exact ⟨x', g2, rfl⟩, fun w => ?_⟩
        have e' : z.cells.toList.toArray = z.cells := by simp
        rw [e'] at g5
        simp [execOp, ho, Instr.build, run_underlying hd, Go.sizeOf, typeInfo, zeroValue, hi, hz, hj, hjs]
        rw [g5]
        simp
      · cases h
    · cases h
  · cases h
end
end CX
