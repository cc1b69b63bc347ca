/-
  CX: the table of types, checked against the program.
-/
import Derived.Test.YtmnaiddobipclaaCxP
import Derived.ChangeKeysEq
namespace CX
open Go

noncomputable section
def zOk : V → Value → Bool
  | .int k n, .int k' n' => kindEq k k' && ieq n n'
  | .bool false, .bool false => true
  | .str [], .string s => Nat.beq s.size 0
  | .nils, .slice none 0 0 => true
  | .nilp, .pointer none => true
  | .nilf, .nilFunc => true
  | .nili, .nilIface => true
  | .nilm, .map none => true
  | _, _ => false

def zOks : List V → List Value → Bool
  | [], [] => true
  | k :: ks, v :: vs => zOk k v && zOks ks vs
  | _, _ => false

def sameZ : V → V → Bool
  | .int k n, .int k' n' => kindEq k k' && ieq n n'
  | .bool false, .bool false => true
  | .str [], .str [] => true
  | .nils, .nils => true
  | .nilp, .nilp => true
  | .nilf, .nilf => true
  | .nili, .nili => true
  | .nilm, .nilm => true
  | _, _ => false

def ztOk (t : T V) : Nat → List V → Bool
  | _, [] => true
  | i, v :: l => (match t.get i with | some u => sameZ u v | none => false) && ztOk t (Nat.succ i) l

def fsEq : List Field → List (Nat × Nat) → Bool
  | [], [] => true
  | f :: r, (o, t) :: s => Nat.beq f.offset o && Nat.beq f.type t && fsEq r s
  | _, _ => false

def kdChk (P : Program) (kd : TK) (d : TypeDesc) : Bool :=
  match kd with
  | .other => match d with
    | .interface _ => false
    | _ => true
  | .int k => match d with
    | .int k' => kindEq k k'
    | _ => false
  | .bool => match d with
    | .bool => true
    | _ => false
  | .str => match d with
    | .string => true
    | _ => false
  | .struct fs => match d with
    | .struct fields => fsEq fields.toList fs && fields.toList.all fun f => (P.info? f.type).isSome
    | _ => false
  | .arr n e => match d with
    | .array n' e' => Nat.beq n n' && Nat.beq e e'
    | _ => false
  | .slice e => match d with
    | .slice e' => Nat.beq e e'
    | _ => false
  | .map k e => match d with
    | .map k' e' => Nat.beq k k' && Nat.beq e e'
    | _ => false
  | .ptr e => match d with
    | .pointer e' => Nat.beq e e'
    | _ => false
  | .iface => true

/-- A cell's type is of one cell, of the kind of a value. -/
def sKind (P : Program) (z : V) (t : Nat) : Bool :=
  match z with
  | .int _ _ => match P.underlying t with
    | some (.int _) => true
    | _ => false
  | .bool _ => match P.underlying t with
    | some .bool => true
    | _ => false
  | .str _ => match P.underlying t with
    | some .string => true
    | _ => false
  | _ => false

def chkF (P : Program) : List Field → List V → Nat → Bool
  | [], [], _ => true
  | f :: fs, z :: zs, i => (f.name != "_") && Nat.beq f.offset i && sKind P z f.type && chkF P fs zs (Nat.succ i)
  | _, _, _ => false

def eqChk (P : Program) (t : Nat) (ty : Ty) (d : TypeDesc) : Bool :=
  match ty.eqp with
  | false => true
  | true => !P.eqGuardType P.depth t && (match d with
    | .struct fields => !P.stoodInHeld t && chkF P fields.toList ty.zero 0
    | .array n e => (P.info? e).isSome && Nat.beq (P.cellsOf e) 1 && Nat.beq (len ty.zero) n && ty.zero.all fun z => sKind P z e
    | _ => false)

def tyChk (P : Program) (t : Nat) (ty : Ty) : Bool :=
  match P.info? t, P.underlying t with
  | some i, some d =>
    Nat.beq i.size ty.size && Nat.beq i.bytes ty.bytes &&
      (match i.zero with
        | some z => zOks ty.zero z.cells.toList && (match z with | .agg _ => ty.agg | _ => !ty.agg)
        | none => false) &&
      Nat.beq (len ty.zero) ty.size && ztOk ty.zt 0 ty.zero && (isAggD d == ty.agg) && kdChk P ty.kd d && eqChk P t ty d
  | _, _ => false

end

theorem zOk_ok {v : V} {u : Value} (h : zOk v u = true) : one1 v = true ∧ ∀ ρ n, Rv ρ n v u := by
  unfold zOk at h
  split at h
  · simp only [Bool.and_eq_true] at h
    have h1 := kindEq_ok h.1
    have h2 := h.2
    rw [ieq_eq, beq_iff_eq] at h2
    subst h1 h2
    exact ⟨rfl, fun ρ n => by simp [Rv]⟩
  · exact ⟨rfl, fun ρ n => by simp [Rv]⟩
  · rename_i s
    have : s.size = 0 := by simpa using h
    have hs : s = ByteArray.empty := ByteArray.ext (Array.eq_empty_of_size_eq_zero this)
    exact ⟨rfl, fun ρ n => by simp only [Rv]; exact ⟨by simp, by rw [hs]; rfl⟩⟩
  all_goals first | (cases h; done) | exact ⟨rfl, fun ρ n => by simp [Rv]⟩

theorem zOks_ok : ∀ (l : List V) (us : List Value), zOks l us = true → (∀ v ∈ l, one1 v = true) ∧ ∀ ρ n, RvL ρ n l us
  | [], [], _ => ⟨by simp, fun _ _ => by simp [RvL]⟩
  | v :: l, u :: us, h => by
    simp only [zOks, Bool.and_eq_true] at h
    obtain ⟨h1, h2⟩ := zOk_ok h.1
    obtain ⟨h3, h4⟩ := zOks_ok l us h.2
    refine ⟨fun x hx => ?_, fun ρ n => by simp only [RvL]; exact ⟨h2 ρ n, h4 ρ n⟩⟩
    rcases List.mem_cons.1 hx with rfl | hx
    · exact h1
    · exact h3 x hx
  | [], _ :: _, h => by simp [zOks] at h
  | _ :: _, [], h => by simp [zOks] at h

theorem sameZ_ok {a b : V} (h : sameZ a b = true) : a = b := by
  unfold sameZ at h
  split at h
  · simp only [Bool.and_eq_true] at h
    have h1 := kindEq_ok h.1
    have h2 := h.2
    rw [ieq_eq, beq_iff_eq] at h2
    subst h1 h2; rfl
  all_goals first | rfl | cases h

theorem ztOk_ok {t : T V} : ∀ (l : List V) (i : Nat), ztOk t i l = true → ∀ j, j < l.length → t.get (i + j) = l[j]?
  | [], _, _, j, hj => by simp at hj
  | v :: l, i, h, j, hj => by
    simp only [ztOk, Bool.and_eq_true] at h
    cases j with
    | zero =>
      have h1 := h.1
      split at h1
      · rename_i u hu
        rw [Nat.add_zero, hu, sameZ_ok h1]; rfl
      · cases h1
    | succ j =>
      have := ztOk_ok l (Nat.succ i) h.2 j (by simpa using hj)
      rw [show i + (j + 1) = Nat.succ i + j by omega, this]; rfl

theorem fsEq_ok : ∀ (l : List Field) (fs : List (Nat × Nat)), fsEq l fs = true → l.map (fun f => (f.offset, f.type)) = fs
  | [], [], _ => rfl
  | f :: r, (o, t) :: s, h => by
    simp only [fsEq, Bool.and_eq_true, Nat.beq_eq] at h
    rw [List.map_cons, fsEq_ok r s h.2, h.1.1, h.1.2]
  | [], _ :: _, h => by simp [fsEq] at h
  | _ :: _, [], h => by simp [fsEq] at h

theorem kdChk_ok {P : Program} {kd : TK} {d : TypeDesc} (h : kdChk P kd d = true) : KdOk P kd d := by
  cases kd with
  | other =>
    intro ms e
    subst e
    simp [kdChk] at h
  | int k =>
    simp only [kdChk] at h
    split at h
    · rw [kindEq_ok h]; rfl
    · cases h
  | bool => simp only [kdChk] at h; split at h; rfl; cases h
  | str => simp only [kdChk] at h; split at h; rfl; cases h
  | struct fs =>
    simp only [kdChk] at h
    split at h
    · rename_i fields
      simp only [Bool.and_eq_true] at h
      refine ⟨fields, rfl, fsEq_ok _ _ h.1, fun f hf => ?_⟩
      have := List.all_eq_true.1 h.2 f (by simpa using hf)
      exact Option.isSome_iff_exists.1 this
    · cases h
  | arr n e =>
    simp only [kdChk] at h
    split at h
    · simp only [Bool.and_eq_true, Nat.beq_eq] at h
      simp only [KdOk, h.1, h.2]
    · cases h
  | slice e =>
    simp only [kdChk] at h
    split at h
    · simp only [Nat.beq_eq] at h
      simp only [KdOk, h]
    · cases h
  | map k e =>
    simp only [kdChk] at h
    split at h
    · simp only [Bool.and_eq_true, Nat.beq_eq] at h
      simp only [KdOk, h.1, h.2]
    · cases h
  | ptr e =>
    simp only [kdChk] at h
    split at h
    · simp only [Nat.beq_eq] at h
      simp only [KdOk, h]
    · cases h
  | iface => trivial

section
variable {P : Program} {ρ : Nm} {n : Nat}

/-- Two cells. -/
theorem cell_eq {z a b : V} {x y : Value} {t : Nat} {r : Bool} {w : World} (hz : sKind P z t = true) (ha : Rv ρ n a x) (hb : Rv ρ n b y)
    (h : eqK z a b = some r) : (Op.equalIn 9999 t x y).run P w = .ok r w ∧ ∀ cs : Array Value, ∀ off, cs[off]? = some x → (Go.part t cs off).run P w = .ok x w := by
  have pt : ∀ d, P.underlying t = some d → isAggD d = false → ∀ cs : Array Value, ∀ off, cs[off]? = some x → (Go.part t cs off).run P w = .ok x w := by
    intro d hd hag cs off hc
    simp only [Go.part, Sem.run_bind, run_isAgg' hd, Result.andThen_ok]
    cases d <;> simp_all [isAggD]
  cases z with
  | int k0 n0 =>
    simp only [eqK] at h
    obtain ⟨k', hu⟩ : ∃ k', P.underlying t = some (.int k') := by
      simp only [sKind] at hz
      split at hz
      · exact ⟨_, by assumption⟩
      · cases hz
    cases a with
    | int k1 a1 =>
      simp only [Rv] at ha
      subst ha
      cases b with
      | int k2 b1 =>
        simp only [Rv] at hb
        subst hb
        simp only [eq1] at h
        split at h
        · rename_i hk
          have := kindEq_ok hk
          subst this
          simp only [Option.some.injEq] at h
          subst h
          exact ⟨by rw [run_equalIn_int w 9998 t k1 k' _ _ hu, ieq_eq], pt _ hu rfl⟩
        · cases h
      | _ => simp [eq1] at h
    | _ => simp at h
  | bool b0 =>
    simp only [eqK] at h
    have hu : P.underlying t = some .bool := by
      simp only [sKind] at hz
      split at hz
      · assumption
      · cases hz
    cases a with
    | bool a1 =>
      simp only [Rv] at ha
      subst ha
      cases b with
      | bool b1 =>
        simp only [Rv] at hb
        subst hb
        refine ⟨?_, pt _ hu rfl⟩
        rw [run_equalIn_bool' w 9998 t _ _ hu]
        cases a1 <;> cases b1 <;> simp_all [eq1]
      | _ => simp [eq1] at h
    | _ => simp at h
  | str s0 =>
    simp only [eqK] at h
    have hu : P.underlying t = some .string := by
      simp only [sKind] at hz
      split at hz
      · assumption
      · cases hz
    cases a with
    | str a1 =>
      simp only [Rv] at ha
      obtain ⟨ha1, rfl⟩ := ha
      cases b with
      | str b1 =>
        simp only [Rv] at hb
        obtain ⟨hb1, rfl⟩ := hb
        simp only [eq1, Option.some.injEq] at h
        subst h
        refine ⟨?_, pt _ hu rfl⟩
        rw [run_equalIn_string w 9998 t _ _ hu, beq_bytes ha1 hb1]
      | _ => simp [eq1] at h
    | _ => simp at h
  | _ => simp [eqK] at h

theorem sKind_und {z : V} {t : Nat} (hz : sKind P z t = true) : ∃ d, P.underlying t = some d ∧ isAggD d = false := by
  cases z <;> simp only [sKind] at hz <;> first | (cases hz; done) | (split at hz <;> first | (cases hz; done) | exact ⟨_, by assumption, rfl⟩)

theorem lists_get {xs : Array Value} {i : Nat} {u : Value} {us : List Value} (h : xs.toList.drop i = u :: us) : xs[i]? = some u ∧ xs.toList.drop (i + 1) = us := by
  have h1 : (xs.toList.drop i)[0]? = some u := by rw [h]; rfl
  rw [List.getElem?_drop] at h1
  refine ⟨by simpa using h1, ?_⟩
  rw [show i + 1 = i + 1 from rfl, ← List.drop_drop, h]; rfl

theorem eqFields_ok {w : World} {xs ys : Array Value} : ∀ (fs : List Field) (zs : List V) (i : Nat) (a b : List V) {r : Bool}, chkF P fs zs i = true → RvL ρ n a (xs.toList.drop i) → RvL ρ n b (ys.toList.drop i) → eqZ zs a b = some r →
    (Op.eqFields 9999 xs ys fs).run P w = .ok r w
  | [], [], i, [], [], r, _, _, _, h => by
    simp only [eqZ, Option.some.injEq] at h
    subst h
    simp [Op.eqFields]
  | f :: fs, z :: zs, i, a :: as, b :: bs, r, hc, ha, hb, h => by
    simp only [chkF, Bool.and_eq_true, Nat.beq_eq, bne_iff_ne] at hc
    obtain ⟨⟨⟨h1, h2⟩, h3⟩, h4⟩ := hc
    cases hx : xs.toList.drop i with
    | nil => rw [hx] at ha; simp [RvL] at ha
    | cons x xr =>
      cases hy : ys.toList.drop i with
      | nil => rw [hy] at hb; simp [RvL] at hb
      | cons y yr =>
        rw [hx] at ha
        rw [hy] at hb
        simp only [RvL] at ha hb
        obtain ⟨gx, ex⟩ := lists_get hx
        obtain ⟨gy, ey⟩ := lists_get hy
        simp only [eqZ] at h
        have step : ∀ c, eqK z a b = some c → (Op.eqFields 9999 xs ys (f :: fs)).run P w = if c then (Op.eqFields 9999 xs ys fs).run P w else .ok false w := by
          intro c hcc
          obtain ⟨k1, k2⟩ := cell_eq (w := w) h3 ha.1 hb.1 hcc
          have k3 : (Go.part f.type ys f.offset).run P w = .ok y w := by
            obtain ⟨d, hd, hag⟩ := sKind_und h3
            simp only [Go.part, Sem.run_bind, run_isAgg' hd, Result.andThen_ok, h2, gy]
            cases d <;> simp_all [isAggD]
          rw [h2] at k3
          simp only [Op.eqFields, if_pos h1, Sem.run_bind]
          rw [h2, k2 xs i gx, Result.andThen_ok, k3, Result.andThen_ok, k1, Result.andThen_ok]
          cases c <;> simp
        split at h
        · rename_i hcc
          rw [step true hcc, if_pos rfl]
          exact eqFields_ok fs zs (Nat.succ i) as bs h4 (by rw [Nat.succ_eq_add_one, ex]; exact ha.2) (by rw [Nat.succ_eq_add_one, ey]; exact hb.2) h
        · rename_i hcc
          simp only [Option.some.injEq] at h
          subst h
          rw [step false hcc]; rfl
        · cases h
  | [], [], _, _ :: _, _, _, _, _, _, h => by simp [eqZ] at h
  | [], [], _, [], _ :: _, _, _, _, _, h => by simp [eqZ] at h
  | [], _ :: _, _, _, _, _, h, _, _, _ => by simp [chkF] at h
  | _ :: _, [], _, _, _, _, h, _, _, _ => by simp [chkF] at h
  | _ :: _, _ :: _, _, [], _, _, _, _, _, h => by simp [eqZ] at h
  | _ :: _, _ :: _, _, _ :: _, [], _, _, _, _, h => by simp [eqZ] at h

theorem eqItems_ok {w : World} {xs ys : Array Value} {e : Nat} : ∀ (m i : Nat) (zs : List V) (a b : List V) {r : Bool}, zs.length = m → (∀ z ∈ zs, sKind P z e = true) → RvL ρ n a (xs.toList.drop i) → RvL ρ n b (ys.toList.drop i) → eqZ zs a b = some r →
    (Op.eqItems 9999 e 1 xs ys (List.range' i m)).run P w = .ok r w
  | 0, i, [], [], [], r, _, _, _, _, h => by
    simp only [eqZ, Option.some.injEq] at h
    subst h
    simp [Op.eqItems]
  | m + 1, i, z :: zs, a :: as, b :: bs, r, hm, hc, ha, hb, h => by
    have h3 := hc z (by simp)
    cases hx : xs.toList.drop i with
    | nil => rw [hx] at ha; simp [RvL] at ha
    | cons x xr =>
      cases hy : ys.toList.drop i with
      | nil => rw [hy] at hb; simp [RvL] at hb
      | cons y yr =>
        rw [hx] at ha
        rw [hy] at hb
        simp only [RvL] at ha hb
        obtain ⟨gx, ex⟩ := lists_get hx
        obtain ⟨gy, ey⟩ := lists_get hy
        simp only [eqZ] at h
        have step : ∀ c, eqK z a b = some c → (Op.eqItems 9999 e 1 xs ys (List.range' i (m + 1))).run P w = if c then (Op.eqItems 9999 e 1 xs ys (List.range' (i + 1) m)).run P w else .ok false w := by
          intro c hcc
          obtain ⟨k1, k2⟩ := cell_eq (w := w) h3 ha.1 hb.1 hcc
          have k3 : (Go.part e ys i).run P w = .ok y w := by
            obtain ⟨d, hd, hag⟩ := sKind_und h3
            simp only [Go.part, Sem.run_bind, run_isAgg' hd, Result.andThen_ok, gy]
            cases d <;> simp_all [isAggD]
          simp only [List.range'_succ, Op.eqItems, Nat.mul_one, Sem.run_bind]
          rw [k2 xs i gx, Result.andThen_ok, k3, Result.andThen_ok, k1, Result.andThen_ok]
          cases c <;> simp
        split at h
        · rename_i hcc
          rw [step true hcc, if_pos rfl]
          exact eqItems_ok m (i + 1) zs as bs (by simpa using hm) (fun z hz => hc z (by simp [hz])) (by rw [ex]; exact ha.2) (by rw [ey]; exact hb.2) h
        · rename_i hcc
          simp only [Option.some.injEq] at h
          subst h
          rw [step false hcc]; rfl
        · cases h
  | 0, _, _ :: _, _, _, _, hm, _, _, _, _ => by simp at hm
  | _ + 1, _, [], _, _, _, hm, _, _, _, _ => by simp at hm
  | 0, _, [], _ :: _, _, _, _, _, _, _, h => by simp [eqZ] at h
  | 0, _, [], [], _ :: _, _, _, _, _, _, h => by simp [eqZ] at h
  | _ + 1, _, _ :: _, [], _, _, _, _, _, _, h => by simp [eqZ] at h
  | _ + 1, _, _ :: _, _ :: _, [], _, _, _, _, _, h => by simp [eqZ] at h
end

theorem tyChk_ok {P : Program} {t : Nat} {ty : Ty} (h : tyChk P t ty = true) : TyOk P t ty := by
  unfold tyChk at h
  split at h
  · rename_i i d hi hd
    simp only [Bool.and_eq_true, Nat.beq_eq] at h
    obtain ⟨⟨⟨⟨⟨⟨⟨h1, h2⟩, h3⟩, h4⟩, h5⟩, h6⟩, h7⟩, h8⟩ := h
    rw [len_eq] at h4
    split at h3
    · rename_i z hz
      simp only [Bool.and_eq_true] at h3
      obtain ⟨hz1, hz2⟩ := zOks_ok _ _ h3.1
      have h3b := h3.2
      replace h6 : isAggD d = ty.agg := eq_of_beq h6
      refine ⟨⟨i, z, hi, h1, h2, hz, hz2, fun ha => ?_, fun ha => ?_⟩, h4, hz1, fun j hj => ?_, ⟨d, hd, h6, kdChk_ok h7⟩, fun he => ?_⟩
      · split at h3b
        · rfl
        · rw [ha] at h3b; cases h3b
      · split at h3b
        · rw [ha] at h3b; cases h3b
        · rename_i hne
          cases z <;> first | rfl | exact (hne _ rfl).elim
      · have := ztOk_ok _ 0 h5 j (by omega)
        simpa using this
      · unfold eqChk at h8
        rw [he] at h8
        simp only [Bool.and_eq_true, Bool.not_eq_true'] at h8
        obtain ⟨g1, g2⟩ := h8
        refine ⟨g1, fun ρ n a b xs ys r w ha hb hr => ?_⟩
        split at g2
        · rename_i fields
          simp only [Bool.and_eq_true, Bool.not_eq_true'] at g2
          have hfo : P.fieldsOf t = fields := by simp [Program.fieldsOf, hd]
          rw [run_equalIn_struct w 9999 t _ _ (by rw [hfo]; exact hd) g2.1, hfo]
          exact eqFields_ok fields.toList ty.zero 0 a b g2.2 (by simpa using ha) (by simpa using hb) hr
        · rename_i m e
          simp only [Bool.and_eq_true, Nat.beq_eq] at g2
          obtain ⟨⟨⟨q1, q2⟩, q3⟩, q4⟩ := g2
          obtain ⟨ie, hie⟩ := Option.isSome_iff_exists.1 q1
          rw [run_equalIn_array w 9999 _ _ hd hie, q2, List.range_eq_range']
          rw [len_eq] at q3
          exact eqItems_ok m 0 ty.zero a b q3 (fun z hz => List.all_eq_true.1 q4 z hz) (by simpa using ha) (by simpa using hb) hr
        · cases g2
    · cases h3
  · cases h

/-- What holds of all entries. -/
def T.All {α : Type} (p : Nat → α → Prop) : T α → (Nat → Nat) → Prop
  | .e, _ => True
  | .n l v r, φ => T.All p l (fun i => φ (2 * i + 1)) ∧ (match v with | some x => p (φ 0) x | none => True) ∧ T.All p r (fun i => φ (2 * i + 2))

theorem T.All.get {α : Type} {p : Nat → α → Prop} : ∀ (t : T α) (φ : Nat → Nat), T.All p t φ → ∀ i x, t.get i = some x → p (φ i) x
  | .e, _, _, i, x, h => by simp [T.get] at h
  | .n l v r, φ, ha, 0, x, h => by
    have h1 := ha.2.1
    have h2 : v = some x := h
    rw [h2] at h1
    exact h1
  | .n l v r, φ, ha, j + 1, x, h => by
    have hj : (T.n l v r).get (j + 1) = if j % 2 = 0 then l.get (j / 2) else r.get (j / 2) := T.get_succ l v r j
    rw [hj] at h
    split at h
    · have := T.All.get l _ ha.1 (j / 2) x h
      rw [show 2 * (j / 2) + 1 = j + 1 by omega] at this
      exact this
    · have := T.All.get r _ ha.2.2 (j / 2) x h
      rw [show 2 * (j / 2) + 2 = j + 1 by omega] at this
      exact this

def T.allB {α : Type} (p : α → Bool) : T α → Bool
  | .e => true
  | .n l v r => T.allB p l && (match v with | some x => p x | none => true) && T.allB p r

theorem T.allB_ok {α : Type} {p : α → Bool} : ∀ (t : T α) (φ : Nat → Nat), T.allB p t = true → T.All (fun _ x => p x = true) t φ
  | .e, _, _ => trivial
  | .n l v r, φ, h => by
    simp only [T.allB, Bool.and_eq_true] at h
    refine ⟨T.allB_ok l _ h.1.1, ?_, T.allB_ok r _ h.2⟩
    cases v with
    | none => trivial
    | some x => exact h.1.2

/-- All types of a table. -/
noncomputable def tabChk (P : Program) (T : Nat → Option Ty) : Nat → Bool
  | 0 => true
  | n + 1 => (match T n with
    | some ty => tyChk P n ty
    | none => true) && tabChk P T n

theorem tabChk_ok {P : Program} {T : Nat → Option Ty} : ∀ n, tabChk P T n = true → ∀ t ty, t < n → T t = some ty → TyOk P t ty
  | 0, _, t, _, h, _ => by omega
  | n + 1, hc, t, ty, ht, h => by
    simp only [tabChk, Bool.and_eq_true] at hc
    by_cases e : t = n
    · subst e
      rw [h] at hc
      exact tyChk_ok hc.1
    · exact tabChk_ok n hc.2 t ty (by omega) h
end CX
