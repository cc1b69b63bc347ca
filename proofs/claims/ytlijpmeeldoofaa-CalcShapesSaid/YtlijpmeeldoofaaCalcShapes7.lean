/-
  Texts of the executors: CxEnv, CxFn, CxGuard, CxKn, CxKn2, CxNd4.
-/
import Derived.Test.YtlijpmeeldoofaaCalcShapes6
import Derived.ChangeKeysEq
import Derived.Test.YtlijpmeeldoofaaProg
import Derived.Tactics
import Derived.Tactics2
import Derived.Defers
import Derived.Recover
import Derived.Laws.Pointers
set_option linter.all false
namespace CX
open Go

noncomputable section
def zOk : V → Value → Bool
  | .int k n, .int k' n' => kindEq k k' && ieq n n'
  | .bool false, .bool false => true
  | .str [], .string s => Nat.beq s.size 0
  | .nils, .slice none 0 0 => true
  | .nilp, .pointer none => true
  | .nilf, .nilFunc => true
  | .nili, .nilIface => true
  | .nilm, .map none => true
  | _, _ => false

def zOks : List V → List Value → Bool
  | [], [] => true
  | k :: ks, v :: vs => zOk k v && zOks ks vs
  | _, _ => false

def sameZ : V → V → Bool
  | .int k n, .int k' n' => kindEq k k' && ieq n n'
  | .bool false, .bool false => true
  | .str [], .str [] => true
  | .nils, .nils => true
  | .nilp, .nilp => true
  | .nilf, .nilf => true
  | .nili, .nili => true
  | .nilm, .nilm => true
  | _, _ => false

def ztOk (t : T V) : Nat → List V → Bool
  | _, [] => true
  | i, v :: l => (match t.get i with | some u => sameZ u v | none => false) && ztOk t (Nat.succ i) l

def fsEq : List Field → List (Nat × Nat) → Bool
  | [], [] => true
  | f :: r, (o, t) :: s => Nat.beq f.offset o && Nat.beq f.type t && fsEq r s
  | _, _ => false

def kdChk (P : Program) (kd : TK) (d : TypeDesc) : Bool :=
  match kd with
  | .other => match d with
    | .interface _ => false
    | _ => true
  | .int k => match d with
    | .int k' => kindEq k k'
    | _ => false
  | .bool => match d with
    | .bool => true
    | _ => false
  | .str => match d with
    | .string => true
    | _ => false
  | .struct fs => match d with
    | .struct fields => fsEq fields.toList fs && fields.toList.all fun f => (P.info? f.type).isSome
    | _ => false
  | .arr n e => match d with
    | .array n' e' => Nat.beq n n' && Nat.beq e e'
    | _ => false
  | .slice e => match d with
    | .slice e' => Nat.beq e e'
    | _ => false
  | .map k e => match d with
    | .map k' e' => Nat.beq k k' && Nat.beq e e'
    | _ => false
  | .ptr e => match d with
    | .pointer e' => Nat.beq e e'
    | _ => false
  | .iface => true

def sKind (P : Program) (z : V) (t : Nat) : Bool :=
  match z with
  | .int _ _ => match P.underlying t with
    | some (.int _) => true
    | _ => false
  | .bool _ => match P.underlying t with
    | some .bool => true
    | _ => false
  | .str _ => match P.underlying t with
    | some .string => true
    | _ => false
  | _ => false

def chkF (P : Program) : List Field → List V → Nat → Bool
  | [], [], _ => true
  | f :: fs, z :: zs, i => (f.name != "_") && Nat.beq f.offset i && sKind P z f.type && chkF P fs zs (Nat.succ i)
  | _, _, _ => false

def chkF1 (P : Program) : List Field → List V → Nat → Bool
  | [], zs, _ => zs.isEmpty
  | f :: fs, zs, i => match zs with
    | [] => false
    | z :: zs' => match (f.name != "_") && Nat.beq f.offset i with
      | false => false
      | true => match sKind P z f.type with
        | true => chkF1 P fs zs' (Nat.succ i)
        | false => match P.underlying f.type, P.info? f.type with
          | some (.struct fields'), some inf => !P.stoodInHeld f.type && Nat.ble inf.size (len (z :: zs')) && chkF P fields'.toList ((z :: zs').take inf.size) 0 && chkF1 P fs ((z :: zs').drop inf.size) (Nat.add i inf.size)
          | _, _ => false

def eqChk (P : Program) (t : Nat) (ty : Ty) (d : TypeDesc) : Bool :=
  match ty.eqp with
  | false => true
  | true => !P.eqGuardType P.depth t && (match d with
    | .struct fields => !P.stoodInHeld t && chkF1 P fields.toList ty.zero 0
    | .array n e => (P.info? e).isSome && Nat.beq (P.cellsOf e) 1 && Nat.beq (len ty.zero) n && ty.zero.all fun z => sKind P z e
    | _ => false)

def tyChk (P : Program) (t : Nat) (ty : Ty) : Bool :=
  match P.info? t, P.underlying t with
  | some i, some d =>
    Nat.beq i.size ty.size && Nat.beq i.bytes ty.bytes &&
      (match i.zero with
        | some z => zOks ty.zero z.cells.toList && (match z with | .agg _ => ty.agg | _ => !ty.agg)
        | none => false) &&
      Nat.beq (len ty.zero) ty.size && ztOk ty.zt 0 ty.zero && (isAggD d == ty.agg) && kdChk P ty.kd d && eqChk P t ty d
  | _, _ => false

end

theorem zOk_ok {v : V} {u : Value} (h : zOk v u = true) : one1 v = true ∧ ∀ ρ n, Rv ρ n v u := by
  unfold zOk at h
  split at h
  · simp only [Bool.and_eq_true] at h
    have h1 := kindEq_ok h.1
    have h2 := h.2
    rw [ieq_eq, beq_iff_eq] at h2
    subst h1 h2
    exact ⟨rfl, fun ρ n => by simp [Rv]⟩
  · exact ⟨rfl, fun ρ n => by simp [Rv]⟩
  · rename_i s
    have : s.size = 0 := by simpa using h
    have hs : s = ByteArray.empty := ByteArray.ext (Array.eq_empty_of_size_eq_zero this)
    exact ⟨rfl, fun ρ n => by simp only [Rv]; exact ⟨by simp, by rw [hs]; rfl⟩⟩
  all_goals first | (cases h; done) | exact ⟨rfl, fun ρ n => by simp [Rv]⟩

theorem zOks_ok : ∀ (l : List V) (us : List Value), zOks l us = true → (∀ v ∈ l, one1 v = true) ∧ ∀ ρ n, RvL ρ n l us
  | [], [], _ => ⟨by simp, fun _ _ => by simp [RvL]⟩
  | v :: l, u :: us, h => by
    simp only [zOks, Bool.and_eq_true] at h
    obtain ⟨h1, h2⟩ := zOk_ok h.1
    obtain ⟨h3, h4⟩ := zOks_ok l us h.2
    refine ⟨fun x hx => ?_, fun ρ n => by simp only [RvL]; exact ⟨h2 ρ n, h4 ρ n⟩⟩
    rcases List.mem_cons.1 hx with rfl | hx
    · exact h1
    · exact h3 x hx
  | [], _ :: _, h => by simp [zOks] at h
  | _ :: _, [], h => by simp [zOks] at h

theorem sameZ_ok {a b : V} (h : sameZ a b = true) : a = b := by
  unfold sameZ at h
  split at h
  · simp only [Bool.and_eq_true] at h
    have h1 := kindEq_ok h.1
    have h2 := h.2
    rw [ieq_eq, beq_iff_eq] at h2
    subst h1 h2; rfl
  all_goals first | rfl | cases h

theorem ztOk_ok {t : T V} : ∀ (l : List V) (i : Nat), ztOk t i l = true → ∀ j, j < l.length → t.get (i + j) = l[j]?
  | [], _, _, j, hj => by simp at hj
  | v :: l, i, h, j, hj => by
    simp only [ztOk, Bool.and_eq_true] at h
    cases j with
    | zero =>
      have h1 := h.1
      split at h1
      · rename_i u hu
        rw [Nat.add_zero, hu, sameZ_ok h1]; rfl
      · cases h1
    | succ j =>
      have := ztOk_ok l (Nat.succ i) h.2 j (by simpa using hj)
      rw [show i + (j + 1) = Nat.succ i + j by omega, this]; rfl

theorem fsEq_ok : ∀ (l : List Field) (fs : List (Nat × Nat)), fsEq l fs = true → l.map (fun f => (f.offset, f.type)) = fs
  | [], [], _ => rfl
  | f :: r, (o, t) :: s, h => by
    simp only [fsEq, Bool.and_eq_true, Nat.beq_eq] at h
    rw [List.map_cons, fsEq_ok r s h.2, h.1.1, h.1.2]
  | [], _ :: _, h => by simp [fsEq] at h
  | _ :: _, [], h => by simp [fsEq] at h

theorem kdChk_ok {P : Program} {kd : TK} {d : TypeDesc} (h : kdChk P kd d = true) : KdOk P kd d := by
  cases kd with
  | other =>
    intro ms e
    subst e
    simp [kdChk] at h
  | int k =>
    simp only [kdChk] at h
    split at h
    · rw [kindEq_ok h]; rfl
    · cases h
  | bool => simp only [kdChk] at h; split at h; rfl; cases h
  | str => simp only [kdChk] at h; split at h; rfl; cases h
  | struct fs =>
    simp only [kdChk] at h
    split at h
    · rename_i fields
      simp only [Bool.and_eq_true] at h
      refine ⟨fields, rfl, fsEq_ok _ _ h.1, fun f hf => ?_⟩
      have := List.all_eq_true.1 h.2 f (by simpa using hf)
      exact Option.isSome_iff_exists.1 this
    · cases h
  | arr n e =>
    simp only [kdChk] at h
    split at h
    · simp only [Bool.and_eq_true, Nat.beq_eq] at h
      simp only [KdOk, h.1, h.2]
    · cases h
  | slice e =>
    simp only [kdChk] at h
    split at h
    · simp only [Nat.beq_eq] at h
      simp only [KdOk, h]
    · cases h
  | map k e =>
    simp only [kdChk] at h
    split at h
    · simp only [Bool.and_eq_true, Nat.beq_eq] at h
      simp only [KdOk, h.1, h.2]
    · cases h
  | ptr e =>
    simp only [kdChk] at h
    split at h
    · simp only [Nat.beq_eq] at h
      simp only [KdOk, h]
    · cases h
  | iface => trivial

section
variable {P : Program} {ρ : Nm} {n : Nat}

theorem cell_eq {D : Nat} {z a b : V} {x y : Value} {t : Nat} {r : Bool} {w : World} (hz : sKind P z t = true) (ha : Rv ρ n a x) (hb : Rv ρ n b y)
    (h : eqK z a b = some r) : (Op.equalIn (D + 1) t x y).run P w = .ok r w ∧ ∀ cs : Array Value, ∀ off, cs[off]? = some x → (Go.part t cs off).run P w = .ok x w := by
  have pt : ∀ d, P.underlying t = some d → isAggD d = false → ∀ cs : Array Value, ∀ off, cs[off]? = some x → (Go.part t cs off).run P w = .ok x w := by
    intro d hd hag cs off hc
    simp only [Go.part, Sem.run_bind, run_isAgg' hd, Result.andThen_ok]
    cases d <;> simp_all [isAggD]
  cases z with
  | int k0 n0 =>
    simp only [eqK] at h
    obtain ⟨k', hu⟩ : ∃ k', P.underlying t = some (.int k') := by
      simp only [sKind] at hz
      split at hz
      · exact ⟨_, by assumption⟩
      · cases hz
    cases a with
    | int k1 a1 =>
      simp only [Rv] at ha
      subst ha
      cases b with
      | int k2 b1 =>
        simp only [Rv] at hb
        subst hb
        simp only [eq1] at h
        split at h
        · rename_i hk
          have := kindEq_ok hk
          subst this
          simp only [Option.some.injEq] at h
          subst h
          exact ⟨by rw [run_equalIn_int w D t k1 k' _ _ hu, ieq_eq], pt _ hu rfl⟩
        · cases h
      | _ => simp [eq1] at h
    | _ => simp at h
  | bool b0 =>
    simp only [eqK] at h
    have hu : P.underlying t = some .bool := by
      simp only [sKind] at hz
      split at hz
      · assumption
      · cases hz
    cases a with
    | bool a1 =>
      simp only [Rv] at ha
      subst ha
      cases b with
      | bool b1 =>
        simp only [Rv] at hb
        subst hb
        refine ⟨?_, pt _ hu rfl⟩
        rw [run_equalIn_bool' w D t _ _ hu]
        cases a1 <;> cases b1 <;> simp_all [eq1]
      | _ => simp [eq1] at h
    | _ => simp at h
  | str s0 =>
    simp only [eqK] at h
    have hu : P.underlying t = some .string := by
      simp only [sKind] at hz
      split at hz
      · assumption
      · cases hz
    cases a with
    | str a1 =>
      simp only [Rv] at ha
      obtain ⟨ha1, rfl⟩ := ha
      cases b with
      | str b1 =>
        simp only [Rv] at hb
        obtain ⟨hb1, rfl⟩ := hb
        simp only [eq1, Option.some.injEq] at h
        subst h
        refine ⟨?_, pt _ hu rfl⟩
        rw [run_equalIn_string w D t _ _ hu, beq_bytes ha1 hb1]
      | _ => simp [eq1] at h
    | _ => simp at h
  | _ => simp [eqK] at h

theorem sKind_und {z : V} {t : Nat} (hz : sKind P z t = true) : ∃ d, P.underlying t = some d ∧ isAggD d = false := by
  cases z <;> simp only [sKind] at hz <;> first | (cases hz; done) | (split at hz <;> first | (cases hz; done) | exact ⟨_, by assumption, rfl⟩)

theorem lists_get {xs : Array Value} {i : Nat} {u : Value} {us : List Value} (h : xs.toList.drop i = u :: us) : xs[i]? = some u ∧ xs.toList.drop (i + 1) = us := by
  have h1 : (xs.toList.drop i)[0]? = some u := by rw [h]; rfl
  rw [List.getElem?_drop] at h1
  refine ⟨by simpa using h1, ?_⟩
  rw [show i + 1 = i + 1 from rfl, ← List.drop_drop, h]; rfl

theorem eqFields_ok {D : Nat} {w : World} {xs ys : Array Value} : ∀ (fs : List Field) (zs : List V) (i : Nat) (a b : List V) {r : Bool}, chkF P fs zs i = true → RvL ρ n a (xs.toList.drop i) → RvL ρ n b (ys.toList.drop i) → eqZ zs a b = some r →
    (Op.eqFields (D + 1) xs ys fs).run P w = .ok r w
  | [], [], i, [], [], r, _, _, _, h => by
    simp only [eqZ, Option.some.injEq] at h
    subst h
    simp [Op.eqFields]
  | f :: fs, z :: zs, i, a :: as0, b :: bs, r, hc, ha, hb, h => by
    simp only [chkF, Bool.and_eq_true, Nat.beq_eq, bne_iff_ne] at hc
    obtain ⟨⟨⟨h1, h2⟩, h3⟩, h4⟩ := hc
    cases hx : xs.toList.drop i with
    | nil => rw [hx] at ha; simp [RvL] at ha
    | cons x xr =>
      cases hy : ys.toList.drop i with
      | nil => rw [hy] at hb; simp [RvL] at hb
      | cons y yr =>
        rw [hx] at ha
        rw [hy] at hb
        simp only [RvL] at ha hb
        obtain ⟨gx, ex⟩ := lists_get hx
        obtain ⟨gy, ey⟩ := lists_get hy
        simp only [eqZ] at h
        have step : ∀ c, eqK z a b = some c → (Op.eqFields (D + 1) xs ys (f :: fs)).run P w = if c then (Op.eqFields (D + 1) xs ys fs).run P w else .ok false w := by
          intro c hcc
          obtain ⟨k1, k2⟩ := cell_eq (w := w) h3 ha.1 hb.1 hcc
          have k3 : (Go.part f.type ys f.offset).run P w = .ok y w := by
            obtain ⟨d, hd, hag⟩ := sKind_und h3
            simp only [Go.part, Sem.run_bind, run_isAgg' hd, Result.andThen_ok, h2, gy]
            cases d <;> simp_all [isAggD]
          rw [h2] at k3
          simp only [Op.eqFields, if_pos h1, Sem.run_bind]
          rw [h2, k2 xs i gx, Result.andThen_ok, k3, Result.andThen_ok, k1, Result.andThen_ok]
          cases c <;> simp
        split at h
        · rename_i hcc
          rw [step true hcc, if_pos rfl]
          exact eqFields_ok fs zs (Nat.succ i) as0 bs h4 (by rw [Nat.succ_eq_add_one, ex]; exact ha.2) (by rw [Nat.succ_eq_add_one, ey]; exact hb.2) h
        · rename_i hcc
          simp only [Option.some.injEq] at h
          subst h
          rw [step false hcc]; rfl
        · cases h
  | [], [], _, _ :: _, _, _, _, _, _, h => by simp [eqZ] at h
  | [], [], _, [], _ :: _, _, _, _, _, h => by simp [eqZ] at h
  | [], _ :: _, _, _, _, _, h, _, _, _ => by simp [chkF] at h
  | _ :: _, [], _, _, _, _, h, _, _, _ => by simp [chkF] at h
  | _ :: _, _ :: _, _, [], _, _, _, _, _, h => by simp [eqZ] at h
  | _ :: _, _ :: _, _, _ :: _, [], _, _, _, _, h => by simp [eqZ] at h

theorem eqZ_split : ∀ (s : Nat) (zs a b : List V) {r : Bool}, s ≤ zs.length → eqZ zs a b = some r →
    ∃ c, eqZ (zs.take s) (a.take s) (b.take s) = some c ∧ (c = false → r = false) ∧ (c = true → eqZ (zs.drop s) (a.drop s) (b.drop s) = some r)
  | 0, zs, a, b, r, _, h => ⟨true, by simp [eqZ], fun e => (by cases e), fun _ => by simpa using h⟩
  | s + 1, z :: zs, a :: as0, b :: bs, r, hs, h => by
    simp only [eqZ] at h
    split at h
    · rename_i hc
      obtain ⟨c, h1, h2, h3⟩ := eqZ_split s zs as0 bs (by simpa using hs) h
      exact ⟨c, by simp only [List.take_succ_cons, eqZ, hc]; exact h1, h2, h3⟩
    · rename_i hc
      simp only [Option.some.injEq] at h
      subst h
      exact ⟨false, by simp only [List.take_succ_cons, eqZ, hc], fun _ => rfl, fun e => by cases e⟩
    · cases h
  | s + 1, [], _, _, _, hs, _ => by simp at hs
  | s + 1, _ :: _, [], _, _, _, h => by simp [eqZ] at h
  | s + 1, _ :: _, _ :: _, [], _, _, h => by simp [eqZ] at h

theorem eqFields1_ok {D : Nat} {w : World} {xs ys : Array Value} : ∀ (fs : List Field) (zs : List V) (i : Nat) (a b : List V) {r : Bool}, chkF1 P fs zs i = true → RvL ρ n a (xs.toList.drop i) → RvL ρ n b (ys.toList.drop i) → eqZ zs a b = some r →
    (Op.eqFields (D + 2) xs ys fs).run P w = .ok r w
  | [], zs, i, a, b, r, hc, _, _, h => by
    cases zs with
    | nil =>
      cases a <;> cases b <;> simp only [eqZ, Option.some.injEq] at h <;> first | (cases h; done) | skip
      subst h
      simp [Op.eqFields]
    | cons _ _ => simp [chkF1] at hc
  | f :: fs, [], i, a, b, r, hc, _, _, h => by simp [chkF1] at hc
  | f :: fs, z :: zs, i, a, b, r, hc, ha, hb, h => by
    cases h12 : ((f.name != "_") && Nat.beq f.offset i) with
    | false => simp only [chkF1, h12] at hc; cases hc
    | true =>
      simp only [chkF1, h12] at hc
      simp only [Bool.and_eq_true, Nat.beq_eq, bne_iff_ne] at h12
      obtain ⟨h1, h2⟩ := h12
      split at hc
      · rename_i h3
        cases a with
        | nil => simp [eqZ] at h
        | cons a as0 =>
        cases b with
        | nil => simp [eqZ] at h
        | cons b bs =>
        cases hx : xs.toList.drop i with
        | nil => rw [hx] at ha; simp [RvL] at ha
        | cons x xr =>
          cases hy : ys.toList.drop i with
          | nil => rw [hy] at hb; simp [RvL] at hb
          | cons y yr =>
            rw [hx] at ha
            rw [hy] at hb
            simp only [RvL] at ha hb
            obtain ⟨gx, ex⟩ := lists_get hx
            obtain ⟨gy, ey⟩ := lists_get hy
            simp only [eqZ] at h
            have step : ∀ c, eqK z a b = some c → (Op.eqFields (D + 2) xs ys (f :: fs)).run P w = if c then (Op.eqFields (D + 2) xs ys fs).run P w else .ok false w := by
              intro c hcc
              obtain ⟨k1, k2⟩ := cell_eq (D := D + 1) (w := w) h3 ha.1 hb.1 hcc
              have k3 : (Go.part f.type ys f.offset).run P w = .ok y w := by
                obtain ⟨d, hd, hag⟩ := sKind_und h3
                simp only [Go.part, Sem.run_bind, run_isAgg' hd, Result.andThen_ok, h2, gy]
                cases d <;> simp_all [isAggD]
              rw [h2] at k3
              simp only [Op.eqFields, if_pos h1, Sem.run_bind]
              rw [h2, k2 xs i gx, Result.andThen_ok, k3, Result.andThen_ok, k1, Result.andThen_ok]
              cases c <;> simp
            split at h
            · rename_i hcc
              rw [step true hcc, if_pos rfl]
              exact eqFields1_ok fs zs (Nat.succ i) as0 bs hc (by rw [Nat.succ_eq_add_one, ex]; exact ha.2) (by rw [Nat.succ_eq_add_one, ey]; exact hb.2) h
            · rename_i hcc
              simp only [Option.some.injEq] at h
              subst h
              rw [step false hcc]; rfl
            · cases h
      · split at hc
        · rename_i fields' inf hu hinf
          simp only [Bool.and_eq_true, Bool.not_eq_true'] at hc
          obtain ⟨⟨⟨c1, c2⟩, c3⟩, c4⟩ := hc
          have c2 : inf.size ≤ (z :: zs).length := by rw [len_eq] at c2; simpa using c2
          obtain ⟨c, e1, e2, e3⟩ := eqZ_split inf.size (z :: zs) a b c2 h
          have hp : ∀ us : Array Value, (Go.part f.type us i).run P w = .ok (.agg (us.extract i (i + inf.size))) w := fun us => by
            simp only [Go.part, Sem.run_bind, run_isAgg' hu, Result.andThen_ok]
            simp [isAggD, run_sizeOf' hinf]
          have hto : ∀ us : Array Value, (us.extract i (i + inf.size)).toList.drop 0 = (us.toList.drop i).take inf.size := fun us => by
            simp [Array.toList_extract, List.extract_eq_take_drop]
          have hfo : P.fieldsOf f.type = fields' := by simp [Program.fieldsOf, hu]
          have hrun : (Op.equalIn (D + 1 + 1) f.type (.agg (xs.extract i (i + inf.size))) (.agg (ys.extract i (i + inf.size)))).run P w = .ok c w := by
            rw [run_equalIn_struct w (D + 1) f.type _ _ (by rw [hfo]; exact hu) c1, hfo]
            exact eqFields_ok fields'.toList _ 0 _ _ c3 (by rw [hto]; exact RvL.take inf.size ha) (by rw [hto]; exact RvL.take inf.size hb) e1
          have step : (Op.eqFields (D + 2) xs ys (f :: fs)).run P w = if c then (Op.eqFields (D + 2) xs ys fs).run P w else .ok false w := by
            simp only [Op.eqFields, if_pos h1, Sem.run_bind]
            rw [h2, hp xs, Result.andThen_ok, hp ys, Result.andThen_ok, hrun, Result.andThen_ok]
            cases c <;> simp
          rw [step]
          cases c with
          | true =>
            rw [if_pos rfl]
            refine eqFields1_ok fs _ (Nat.add i inf.size) (a.drop inf.size) (b.drop inf.size) c4 ?_ ?_ (e3 rfl)
            · have := RvL.drop inf.size ha
              rw [List.drop_drop] at this
              exact this
            · have := RvL.drop inf.size hb
              rw [List.drop_drop] at this
              exact this
          | false => rw [e2 rfl]; rfl
        · cases hc

theorem eqItems_ok {D : Nat} {w : World} {xs ys : Array Value} {e : Nat} : ∀ (m i : Nat) (zs : List V) (a b : List V) {r : Bool}, zs.length = m → (∀ z ∈ zs, sKind P z e = true) → RvL ρ n a (xs.toList.drop i) → RvL ρ n b (ys.toList.drop i) → eqZ zs a b = some r →
    (Op.eqItems (D + 1) e 1 xs ys (List.range' i m)).run P w = .ok r w
  | 0, i, [], [], [], r, _, _, _, _, h => by
    simp only [eqZ, Option.some.injEq] at h
    subst h
    simp [Op.eqItems]
  | m + 1, i, z :: zs, a :: as0, b :: bs, r, hm, hc, ha, hb, h => by
    have h3 := hc z (by simp)
    cases hx : xs.toList.drop i with
    | nil => rw [hx] at ha; simp [RvL] at ha
    | cons x xr =>
      cases hy : ys.toList.drop i with
      | nil => rw [hy] at hb; simp [RvL] at hb
      | cons y yr =>
        rw [hx] at ha
        rw [hy] at hb
        simp only [RvL] at ha hb
        obtain ⟨gx, ex⟩ := lists_get hx
        obtain ⟨gy, ey⟩ := lists_get hy
        simp only [eqZ] at h
        have step : ∀ c, eqK z a b = some c → (Op.eqItems (D + 1) e 1 xs ys (List.range' i (m + 1))).run P w = if c then (Op.eqItems (D + 1) e 1 xs ys (List.range' (i + 1) m)).run P w else .ok false w := by
          intro c hcc
          obtain ⟨k1, k2⟩ := cell_eq (w := w) h3 ha.1 hb.1 hcc
          have k3 : (Go.part e ys i).run P w = .ok y w := by
            obtain ⟨d, hd, hag⟩ := sKind_und h3
            simp only [Go.part, Sem.run_bind, run_isAgg' hd, Result.andThen_ok, gy]
            cases d <;> simp_all [isAggD]
          simp only [List.range'_succ, Op.eqItems, Nat.mul_one, Sem.run_bind]
          rw [k2 xs i gx, Result.andThen_ok, k3, Result.andThen_ok, k1, Result.andThen_ok]
          cases c <;> simp
        split at h
        · rename_i hcc
          rw [step true hcc, if_pos rfl]
          exact eqItems_ok m (i + 1) zs as0 bs (by simpa using hm) (fun z hz => hc z (by simp [hz])) (by rw [ex]; exact ha.2) (by rw [ey]; exact hb.2) h
        · rename_i hcc
          simp only [Option.some.injEq] at h
          subst h
          rw [step false hcc]; rfl
        · cases h
  | 0, _, _ :: _, _, _, _, hm, _, _, _, _ => by simp at hm
  | _ + 1, _, [], _, _, _, hm, _, _, _, _ => by simp at hm
  | 0, _, [], _ :: _, _, _, _, _, _, _, h => by simp [eqZ] at h
  | 0, _, [], [], _ :: _, _, _, _, _, _, h => by simp [eqZ] at h
  | _ + 1, _, _ :: _, [], _, _, _, _, _, _, h => by simp [eqZ] at h
  | _ + 1, _, _ :: _, _ :: _, [], _, _, _, _, _, h => by simp [eqZ] at h
end

theorem tyChk_ok {P : Program} {t : Nat} {ty : Ty} (h : tyChk P t ty = true) : TyOk P t ty := by
  unfold tyChk at h
  split at h
  · rename_i i d hi hd
    simp only [Bool.and_eq_true, Nat.beq_eq] at h
    obtain ⟨⟨⟨⟨⟨⟨⟨h1, h2⟩, h3⟩, h4⟩, h5⟩, h6⟩, h7⟩, h8⟩ := h
    rw [len_eq] at h4
    split at h3
    · rename_i z hz
      simp only [Bool.and_eq_true] at h3
      obtain ⟨hz1, hz2⟩ := zOks_ok _ _ h3.1
      have h3b := h3.2
      replace h6 : isAggD d = ty.agg := eq_of_beq h6
      refine ⟨⟨i, z, hi, h1, h2, hz, hz2, fun ha => ?_, fun ha => ?_⟩, h4, hz1, fun j hj => ?_, ⟨d, hd, h6, kdChk_ok h7⟩, fun he => ?_⟩
      · split at h3b
        · rfl
        · rw [ha] at h3b; cases h3b
      · split at h3b
        · rw [ha] at h3b; cases h3b
        · rename_i hne
          cases z <;> first | rfl | exact (hne _ rfl).elim
      · have := ztOk_ok _ 0 h5 j (by omega)
        simpa using this
      · unfold eqChk at h8
        rw [he] at h8
        simp only [Bool.and_eq_true, Bool.not_eq_true'] at h8
        obtain ⟨g1, g2⟩ := h8
        refine ⟨g1, fun ρ n a b xs ys r w ha hb hr => ?_⟩
        split at g2
        · rename_i fields
          simp only [Bool.and_eq_true, Bool.not_eq_true'] at g2
          have hfo : P.fieldsOf t = fields := by simp [Program.fieldsOf, hd]
          rw [run_equalIn_struct w 9999 t _ _ (by rw [hfo]; exact hd) g2.1, hfo]
          exact eqFields1_ok (D := 9997) fields.toList ty.zero 0 a b g2.2 (by simpa using ha) (by simpa using hb) hr
        · rename_i m e
          simp only [Bool.and_eq_true, Nat.beq_eq] at g2
          obtain ⟨⟨⟨q1, q2⟩, q3⟩, q4⟩ := g2
          obtain ⟨ie, hie⟩ := Option.isSome_iff_exists.1 q1
          rw [run_equalIn_array w 9999 _ _ hd hie, q2, List.range_eq_range']
          rw [len_eq] at q3
          exact eqItems_ok (D := 9998) m 0 ty.zero a b q3 (fun z hz => List.all_eq_true.1 q4 z hz) (by simpa using ha) (by simpa using hb) hr
        · cases g2
    · cases h3
  · cases h

def T.All {α : Type} (p : Nat → α → Prop) : T α → (Nat → Nat) → Prop
  | .e, _ => True
  | .n l v r, φ => T.All p l (fun i => φ (2 * i + 1)) ∧ (match v with | some x => p (φ 0) x | none => True) ∧ T.All p r (fun i => φ (2 * i + 2))

theorem T.All.get {α : Type} {p : Nat → α → Prop} : ∀ (t : T α) (φ : Nat → Nat), T.All p t φ → ∀ i x, t.get i = some x → p (φ i) x
  | .e, _, _, i, x, h => by simp [T.get] at h
  | .n l v r, φ, ha, 0, x, h => by
    have h1 := ha.2.1
    have h2 : v = some x := h
    rw [h2] at h1
    exact h1
  | .n l v r, φ, ha, j + 1, x, h => by
    have hj : (T.n l v r).get (j + 1) = if j % 2 = 0 then l.get (j / 2) else r.get (j / 2) := T.get_succ l v r j
    rw [hj] at h
    split at h
    · have := T.All.get l _ ha.1 (j / 2) x h
      rw [show 2 * (j / 2) + 1 = j + 1 by omega] at this
      exact this
    · have := T.All.get r _ ha.2.2 (j / 2) x h
      rw [show 2 * (j / 2) + 2 = j + 1 by omega] at this
      exact this

def T.allB {α : Type} (p : α → Bool) : T α → Bool
  | .e => true
  | .n l v r => T.allB p l && (match v with | some x => p x | none => true) && T.allB p r

theorem T.allB_ok {α : Type} {p : α → Bool} : ∀ (t : T α) (φ : Nat → Nat), T.allB p t = true → T.All (fun _ x => p x = true) t φ
  | .e, _, _ => trivial
  | .n l v r, φ, h => by
    simp only [T.allB, Bool.and_eq_true] at h
    refine ⟨T.allB_ok l _ h.1.1, ?_, T.allB_ok r _ h.2⟩
    cases v with
    | none => trivial
    | some x => exact h.1.2

noncomputable def tabChk (P : Program) (T : Nat → Option Ty) : Nat → Bool
  | 0 => true
  | n + 1 => (match T n with
    | some ty => tyChk P n ty
    | none => true) && tabChk P T n

theorem tabChk_ok {P : Program} {T : Nat → Option Ty} : ∀ n, tabChk P T n = true → ∀ t ty, t < n → T t = some ty → TyOk P t ty
  | 0, _, t, _, h, _ => by omega
  | n + 1, hc, t, ty, ht, h => by
    simp only [tabChk, Bool.and_eq_true] at hc
    by_cases e : t = n
    · subst e
      rw [h] at hc
      exact tyChk_ok hc.1
    · exact tabChk_ok n hc.2 t ty (by omega) h
end CX

namespace CX
open Go Go.Proofs

theorem fnT_ok : T.All (fun f fn => Try.prog.funcs[f]? = some fn) fnT id := (And.intro (And.intro (And.intro (And.intro (And.intro (And.intro (And.intro trivial (And.intro Try.func63 trivial)) (And.intro Try.func31 (And.intro trivial (And.intro Try.func95 trivial)))) (And.intro Try.func15 (And.intro (And.intro trivial (And.intro Try.func79 trivial)) (And.intro Try.func47 trivial)))) (And.intro Try.func7 (And.intro (And.intro (And.intro trivial (And.intro Try.func71 trivial)) (And.intro Try.func39 trivial)) (And.intro Try.func23 (And.intro (And.intro trivial (And.intro Try.func87 trivial)) (And.intro Try.func55 trivial)))))) (And.intro Try.func3 (And.intro (And.intro (And.intro (And.intro trivial (And.intro Try.func67 trivial)) (And.intro Try.func35 (And.intro trivial (And.intro Try.func99 trivial)))) (And.intro Try.func19 (And.intro (And.intro trivial (And.intro Try.func83 trivial)) (And.intro Try.func51 trivial)))) (And.intro Try.func11 (And.intro (And.intro (And.intro trivial (And.intro Try.func75 trivial)) (And.intro Try.func43 trivial)) (And.intro Try.func27 (And.intro (And.intro trivial (And.intro Try.func91 trivial)) (And.intro Try.func59 trivial)))))))) (And.intro trivial (And.intro (And.intro (And.intro (And.intro (And.intro trivial (And.intro Try.func65 trivial)) (And.intro Try.func33 (And.intro trivial (And.intro Try.func97 trivial)))) (And.intro Try.func17 (And.intro (And.intro trivial (And.intro Try.func81 trivial)) (And.intro Try.func49 trivial)))) (And.intro Try.func9 (And.intro (And.intro (And.intro trivial (And.intro Try.func73 trivial)) (And.intro Try.func41 trivial)) (And.intro Try.func25 (And.intro (And.intro trivial (And.intro Try.func89 trivial)) (And.intro Try.func57 trivial)))))) (And.intro Try.func5 (And.intro (And.intro (And.intro (And.intro trivial (And.intro Try.func69 trivial)) (And.intro Try.func37 (And.intro trivial (And.intro Try.func101 trivial)))) (And.intro Try.func21 (And.intro (And.intro trivial (And.intro Try.func85 trivial)) (And.intro Try.func53 trivial)))) (And.intro Try.func13 (And.intro (And.intro (And.intro trivial (And.intro Try.func77 trivial)) (And.intro Try.func45 trivial)) (And.intro Try.func29 (And.intro (And.intro trivial (And.intro Try.func93 trivial)) (And.intro Try.func61 trivial)))))))))) (And.intro trivial (And.intro (And.intro (And.intro (And.intro (And.intro (And.intro trivial (And.intro Try.func64 trivial)) (And.intro Try.func32 (And.intro trivial (And.intro Try.func96 trivial)))) (And.intro Try.func16 (And.intro (And.intro trivial (And.intro Try.func80 trivial)) (And.intro Try.func48 trivial)))) (And.intro Try.func8 (And.intro (And.intro (And.intro trivial (And.intro Try.func72 trivial)) (And.intro Try.func40 trivial)) (And.intro Try.func24 (And.intro (And.intro trivial (And.intro Try.func88 trivial)) (And.intro Try.func56 trivial)))))) (And.intro Try.func4 (And.intro (And.intro (And.intro (And.intro trivial (And.intro Try.func68 trivial)) (And.intro Try.func36 (And.intro trivial (And.intro Try.func100 trivial)))) (And.intro Try.func20 (And.intro (And.intro trivial (And.intro Try.func84 trivial)) (And.intro Try.func52 trivial)))) (And.intro Try.func12 (And.intro (And.intro (And.intro trivial (And.intro Try.func76 trivial)) (And.intro Try.func44 trivial)) (And.intro Try.func28 (And.intro (And.intro trivial (And.intro Try.func92 trivial)) (And.intro Try.func60 trivial)))))))) (And.intro Try.func2 (And.intro (And.intro (And.intro (And.intro (And.intro trivial (And.intro Try.func66 trivial)) (And.intro Try.func34 (And.intro trivial (And.intro Try.func98 trivial)))) (And.intro Try.func18 (And.intro (And.intro trivial (And.intro Try.func82 trivial)) (And.intro Try.func50 trivial)))) (And.intro Try.func10 (And.intro (And.intro (And.intro trivial (And.intro Try.func74 trivial)) (And.intro Try.func42 trivial)) (And.intro Try.func26 (And.intro (And.intro trivial (And.intro Try.func90 trivial)) (And.intro Try.func58 trivial)))))) (And.intro Try.func6 (And.intro (And.intro (And.intro (And.intro trivial (And.intro Try.func70 trivial)) (And.intro Try.func38 trivial)) (And.intro Try.func22 (And.intro (And.intro trivial (And.intro Try.func86 trivial)) (And.intro Try.func54 trivial)))) (And.intro Try.func14 (And.intro (And.intro (And.intro trivial (And.intro Try.func78 trivial)) (And.intro Try.func46 trivial)) (And.intro Try.func30 (And.intro (And.intro trivial (And.intro Try.func94 trivial)) (And.intro Try.func62 trivial))))))))))))
end CX

namespace CX
open Go Go.Proofs

theorem equal_nili {P : Program} (d : Nat) (t : TypeId) (w : World) {ms} (h : P.underlying t = some (.interface ms)) : (Op.equalIn (d + 1) t .nilIface .nilIface).run P w = .ok true w := by
  simp [Op.equalIn, run_underlying h]

set_option maxRecDepth 100000 in
theorem catch_idle (p : Addr) (w : World) :
    CallsD Try.prog 43 #[.pointer (some p)] .returning w fun e u' w' => e = .returned (.tuple #[]) ∧ u' = .returning ∧ w' = w := by
  refine callsD_of_wpS Try.func43 rfl fun c₀ cs hu => ?_
  apply wpS_seq
  apply wpS_region
  simp [wpOpsS, go_sem, recoverD, hu, Try.ntmps43, Exit.thenS]
  refine wpS_of_wp ?_
  have hb : (binOp .eql 20 .nilIface .nilIface).run Try.prog w = .ok (.bool true) w := by
    have h2 : (Op.equal 20 .nilIface .nilIface).run Try.prog w = .ok true w := equal_nili 9999 20 w Try.underlying20
    simp only [binOp]
    simp [h2]
  go_wp2
  cases c₀
  simp_all [bodyPostS, results, Try.f43]

set_option maxRecDepth 100000 in
theorem guard_calls (g : FuncId) (a b : Array Value) (w : World) (Q : World → Prop) (gn : Func) (hg : Try.prog.funcs[g]? = some gn) (hgn : gn.name ≠ "runtime.NumGoroutine") (hgb : gn.body.isSome = true)
    (h : Calls Try.prog g (a ++ b) (w.alloc (.cells #[.int .i64 0] 27)) (fun e w' => (∃ u, e = .returned u) ∧ w'.heap[w.heap.size]? = some (.cells #[.int .i64 0] 27) ∧ Q w')) :
    Calls Try.prog 24 #[.func (.func g) a b] w fun e w' => e = .returned (.int .i64 0) ∧ ∃ w1, (w1.heap[w.heap.size]? = some (.cells #[.int .i64 0] 27) ∧ Q w1) ∧ w' = w1.setCell ⟨w.heap.size, 0, none⟩ (.int .i64 0) := by
  have hmf : ∀ (fn : Fn) (first cap : Array Value) (w : World), (Instr.makeFunc fn first cap).run Try.prog w = .ok (.func fn first cap) w := fun _ _ _ _ => rfl
  have hcf : (callFunc g (a ++ b)).run Try.prog (w.alloc (.cells #[.int .i64 0] 27)) = .ok (.enter g (a ++ b)) (w.alloc (.cells #[.int .i64 0] 27)) := by
    simp [callFunc, hg, hgn, Option.isNone_iff_eq_none, Option.isSome_iff_ne_none.1 hgb]
  go_enter_defers Try.func24, Try.ntmps24
  go_wp2
  refine h.mono ?_
  rintro e w' ⟨⟨u, rfl⟩, hc, hq⟩
  simp only []
  have hc1 : w'.cell? ⟨w.heap.size, 0, none⟩ = some (.int .i64 0) := by simp [World.cell?, hc]
  have hz : w'.frozen? ⟨w.heap.size, 0, none⟩ = false := by simp [World.frozen?, hc]
  go_wp2
  refine leaves_cons (f := 43) (args := #[.pointer (some ⟨w.heap.size, 0, none⟩)]) (by simp) (by simp [go_sem]) ?_
  refine (catch_idle ⟨w.heap.size, 0, none⟩ _).mono ?_
  rintro e u' w'' ⟨rfl, rfl, rfl⟩
  have hc2 : (w'.setCell ⟨w.heap.size, 0, none⟩ (.int .i64 0)).cell? ⟨w.heap.size, 0, none⟩ = some (.int .i64 0) := by simp [World.cell?, World.setCell, Array.getElem?_modify, hc]
  simp [Leaves, settle, results, Try.results24, go_sem]
  rw [hc2]
  exact ⟨_, rfl, rfl, w', ⟨hc, hq⟩, rfl⟩

theorem guard_ok : GuardOk Try.prog 24 := by
  refine ⟨27, fun g a b w Q gn hg hgn hgb h => (guard_calls g a b w Q gn hg hgn hgb h).mono fun e w' he => ?_⟩
  obtain ⟨rfl, w1, ⟨hc, hq⟩, rfl⟩ := he
  refine ⟨rfl, w1, hq, rfl, rfl, rfl, by simp [World.setCell], fun i => ?_⟩
  simp only [World.setCell, Array.getElem?_modify]
  split
  · rename_i e
    subst e
    rw [hc]
    rfl
  · rfl
end CX

namespace CX
open Go
noncomputable section

def Known (E : Env) (P : Program) (rd : Option Nat) (c : Code) (S : St) (e : Ex) (S' : St) : Prop :=
  ∀ ρ a w, Sat E ρ S a w → RdOk ρ S.nx rd → c.wpIn (Fw (rdB ρ rd)) 0 P (CPost E ρ S w e S') a w

def KnownR (E : Env) (P : Program) (rd : Option Nat) (m : Nat) (c : Code) (S : St) (e : Ex) (S' : St) : Prop :=
  ∀ ρ a w, Sat E ρ S a w → RdOk ρ S.nx rd → Code.roundsIn (Fw (rdB ρ rd)) 0 P c (CPost E ρ S w e S') m a w

variable {E : Env} {P : Program} {rd : Option Nat}

theorem CPost.from {ρ : Nm} {S S0 : St} (h : Wk S S0) {w : World} {e : Ex} {S' : St} {x : Exit} {a' : Act} {w' : World} (hp : CPost E ρ S0 w e S' x a' w') : CPost E ρ S w e S' x a' w' := by
  obtain ⟨rfl, ρ', hL⟩ := hp
  exact ⟨rfl, ρ', hL.sat, by rw [← h.nx]; exact hL.ag, by rw [← h.nx]; exact hL.le, hL.nt.trans h.nt, hL.bar.trans h.bar,
    hL.fr.os, hL.fr.tape, hL.fr.output, hL.fr.size, fun b hb ho => hL.fr.keep b hb fun hn => ho (Own.wk h hn), fun b hb => (hL.fr.own b hb).imp (Own.wk h) id⟩

theorem CPost.to {ρ : Nm} {S S' S'' : St} (h : Wk S' S'') {w : World} {e : Ex} {x : Exit} {a' : Act} {w' : World} (hp : CPost E ρ S w e S' x a' w') : CPost E ρ S w e S'' x a' w' := by
  obtain ⟨rfl, ρ', hL⟩ := hp
  exact ⟨rfl, ρ', hL.wk h⟩

theorem Known.from {c : Code} {S S0 : St} {e : Ex} {S' : St} (h : Wk S S0) (k : Known E P rd c S0 e S') : Known E P rd c S e S' := fun ρ a w hS hrd => by
  have := k ρ a w (hS.wk h) (by rw [h.nx]; exact hrd)
  exact wpIn_mono this fun x a' w' hp => hp.from h

theorem KnownR.from {m : Nat} {c : Code} {S S0 : St} {e : Ex} {S' : St} (h : Wk S S0) (k : KnownR E P rd m c S0 e S') : KnownR E P rd m c S e S' := fun ρ a w hS hrd => by
  have := k ρ a w (hS.wk h) (by rw [h.nx]; exact hrd)
  exact roundsIn_mono (fun x a' w' hp => hp.from h) m a w this

theorem Known.to {c : Code} {S : St} {e : Ex} {S' S'' : St} (h : Wk S' S'') (k : Known E P rd c S e S') : Known E P rd c S e S'' := fun ρ a w hS hrd =>
  wpIn_mono (k ρ a w hS hrd) fun x a' w' hp => hp.to h

theorem Known.cx (hE : EnvOk E P) {n : Nat} {c : Code} {S : St} {e : Ex} {S' : St} (h : cx E n rd c S = some (e, S')) : Known E P rd c S e S' :=
  (cx_ok hE n).1 rd c S e S' h

theorem KnownR.cx (hE : EnvOk E P) {n : Nat} {c : Code} {S : St} {e : Ex} {S' : St} (h : cx E n rd (.loop c) S = some (e, S')) : KnownR E P rd n c S e S' :=
  (cx_ok hE n).2 rd c S e S' h

theorem KnownR.step {m : Nat} {c : Code} {S S1 : St} {e : Ex} {S' : St} (k1 : Known E P rd c S .normal S1) (k2 : KnownR E P rd m c S1 e S') : KnownR E P rd (m + 1) c S e S' := fun ρ a w hS hrd => by
  rw [roundsIn_succ]
  refine wpIn_mono (k1 ρ a w hS hrd) ?_
  rintro x a1 w1 ⟨rfl, ρ1, hL⟩
  have := k2 ρ1 a1 w1 hL.sat (hrd.ag hL.ag hL.le)
  rw [rdB_ag hrd hL.ag] at this
  exact roundsIn_mono (fun x a2 w2 hp => hp.after hL) m a1 w1 this

theorem KnownR.loop {m : Nat} {c : Code} {S : St} {e : Ex} {S' : St} (k : KnownR E P rd m c S e S') : Known E P rd (.loop c) S e S' := fun ρ a w hS hrd =>
  wpIn_loop_rounds m (k ρ a w hS hrd)

def itn (E : Env) (n : Nat) (rd : Option Nat) (c : Code) : Nat → St → Option St
  | 0, S => some S
  | k + 1, S => match cx E n rd c S with
    | some (.normal, S) => itn E n rd c k S
    | _ => none

theorem KnownR.itn (hE : EnvOk E P) {n : Nat} {c : Code} {e : Ex} {S' : St} : ∀ (k : Nat) {S S1 : St} {m : Nat}, itn E n rd c k S = some S1 → KnownR E P rd m c S1 e S' → KnownR E P rd (m + k) c S e S'
  | 0, S, S1, m, h, k2 => by
    simp only [CX.itn, Option.some.injEq] at h
    subst h
    exact k2
  | k + 1, S, S1, m, h, k2 => by
    simp only [CX.itn] at h
    split at h
    · rename_i S2 h2
      exact KnownR.step (Known.cx hE h2) (KnownR.itn hE k h k2)
    · cases h

def isS (S : St) : Option St → Bool
  | some S' => leS S S'
  | none => false

theorem KnownR.chunk (hE : EnvOk E P) {n k : Nat} {c : Code} {e : Ex} {S' S S1 : St} {m : Nat} (h : isS S1 (CX.itn E n rd c k S) = true) (k2 : KnownR E P rd m c S1 e S') : KnownR E P rd (m + k) c S e S' := by
  cases hi : CX.itn E n rd c k S with
  | none => rw [hi] at h; cases h
  | some S2 =>
    rw [hi] at h
    exact KnownR.itn hE k hi (k2.from (leS_ok h))


def flatC : Code → List Code
  | .seq a b => flatC a ++ flatC b
  | c => [c]

def wpL (F : Fence) (P : Program) (Q : Exit → Act → World → Prop) : List Code → Act → World → Prop
  | [] => Q .normal
  | c :: r => c.wpIn F 0 P (Exit.then (wpL F P Q r) Q)

theorem wpL_mono {F : Fence} {Q Q' : Exit → Act → World → Prop} (h : ∀ e a w, Q e a w → Q' e a w) : ∀ (l : List Code) (a : Act) (w : World), wpL F P Q l a w → wpL F P Q' l a w
  | [], a, w, hq => h _ _ _ hq
  | c :: r, a, w, hq => wpIn_mono (show c.wpIn F 0 P (Exit.then (wpL F P Q r) Q) a w from hq) fun e a w he => by
    cases e <;> first | exact wpL_mono h r _ _ he | exact h _ _ _ he

theorem wpL_app {F : Fence} {Q : Exit → Act → World → Prop} : ∀ (l l' : List Code) (a : Act) (w : World), wpL F P Q (l ++ l') a w → wpL F P (Exit.then (wpL F P Q l') Q) l a w
  | [], l', a, w, h => h
  | c :: r, l', a, w, h => wpIn_mono (show c.wpIn F 0 P (Exit.then (wpL F P Q (r ++ l')) Q) a w from h) fun e a w he => by
    cases e <;> first | exact wpL_app r l' _ _ he | exact he

theorem wpL_one {F : Fence} {Q : Exit → Act → World → Prop} {c : Code} {a : Act} {w : World} (h : wpL F P Q [c] a w) : c.wpIn F 0 P Q a w :=
  wpIn_mono (show c.wpIn F 0 P (Exit.then (wpL F P Q []) Q) a w from h) fun e a w he => by cases e <;> exact he

theorem wpL_flat {F : Fence} (c : Code) : ∀ {Q : Exit → Act → World → Prop} (a : Act) (w : World), wpL F P Q (flatC c) a w → c.wpIn F 0 P Q a w := by
  induction c with
  | seq c1 c2 i1 i2 =>
    intro Q a w h
    refine wpIn_seq (i1 a w (wpL_mono (fun e a w he => ?_) _ a w (wpL_app _ _ a w h)))
    cases e <;> first | exact i2 _ _ he | exact he
  | _ => exact fun a w h => wpL_one h

def KnownL (E : Env) (P : Program) (rd : Option Nat) (l : List Code) (S : St) (e : Ex) (S' : St) : Prop :=
  ∀ ρ a w, Sat E ρ S a w → RdOk ρ S.nx rd → wpL (Fw (rdB ρ rd)) P (CPost E ρ S w e S') l a w

theorem KnownL.code {c : Code} {S : St} {e : Ex} {S' : St} (k : KnownL E P rd (flatC c) S e S') : Known E P rd c S e S' := fun ρ a w hS hrd => wpL_flat c a w (k ρ a w hS hrd)

theorem KnownL.cons {c : Code} {l : List Code} {S S1 : St} {e : Ex} {S' : St} (k1 : Known E P rd c S .normal S1) (k2 : KnownL E P rd l S1 e S') : KnownL E P rd (c :: l) S e S' := fun ρ a w hS hrd => by
  refine wpIn_mono (k1 ρ a w hS hrd) ?_
  rintro x a1 w1 ⟨rfl, ρ1, hL⟩
  have := k2 ρ1 a1 w1 hL.sat (hrd.ag hL.ag hL.le)
  rw [rdB_ag hrd hL.ag] at this
  exact wpL_mono (fun x a2 w2 hp => hp.after hL) l a1 w1 this

theorem KnownL.from {l : List Code} {S S0 : St} {e : Ex} {S' : St} (h : Wk S S0) (k : KnownL E P rd l S0 e S') : KnownL E P rd l S e S' := fun ρ a w hS hrd =>
  wpL_mono (fun x a' w' hp => hp.from h) l a w (k ρ a w (hS.wk h) (by rw [h.nx]; exact hrd))

theorem KnownL.to {l : List Code} {S : St} {e : Ex} {S' S'' : St} (h : Wk S' S'') (k : KnownL E P rd l S e S') : KnownL E P rd l S e S'' := fun ρ a w hS hrd =>
  wpL_mono (fun x a' w' hp => hp.to h) l a w (k ρ a w hS hrd)

def runL (E : Env) (n : Nat) (rd : Option Nat) : List Code → St → Option St
  | [], S => some S
  | c :: r, S => match cx E n rd c S with
    | some (.normal, S) => runL E n rd r S
    | _ => none

theorem KnownL.run (hE : EnvOk E P) {n : Nat} {e : Ex} {S' : St} : ∀ (l : List Code) {l' : List Code} {S S1 : St}, runL E n rd l S = some S1 → KnownL E P rd l' S1 e S' → KnownL E P rd (l ++ l') S e S'
  | [], l', S, S1, h, k => by
    simp only [runL, Option.some.injEq] at h
    subst h
    exact k
  | c :: r, l', S, S1, h, k => by
    simp only [runL] at h
    split at h
    · rename_i S2 h2
      exact KnownL.cons (Known.cx hE h2) (KnownL.run hE r h k)
    · cases h

theorem KnownL.chunk (hE : EnvOk E P) {n : Nat} {e : Ex} {S' : St} {l l' : List Code} {S S1 : St} (h : isS S1 (runL E n rd l S) = true) (k : KnownL E P rd l' S1 e S') : KnownL E P rd (l ++ l') S e S' := by
  cases hi : runL E n rd l S with
  | none => rw [hi] at h; cases h
  | some S2 =>
    rw [hi] at h
    exact KnownL.run hE l hi (k.from (leS_ok h))

def runE (E : Env) (n : Nat) (rd : Option Nat) : List Code → St → Option (Ex × St)
  | [], S => some (.normal, S)
  | c :: r, S => match cx E n rd c S with
    | some (.normal, S) => runE E n rd r S
    | some (e, S) => some (e, S)
    | none => none

theorem KnownL.ends (hE : EnvOk E P) {n : Nat} {e : Ex} {S' : St} : ∀ (l : List Code) {S : St}, runE E n rd l S = some (e, S') → KnownL E P rd l S e S'
  | [], S, h => by
    simp only [runE, Option.some.injEq, Prod.mk.injEq] at h
    obtain ⟨rfl, rfl⟩ := h
    exact fun ρ a w hS _ => ⟨rfl, ρ, hS.lands⟩
  | c :: r, S, h => by
    simp only [runE] at h
    split at h
    · rename_i S2 h2
      exact KnownL.cons (Known.cx hE h2) (KnownL.ends hE r h)
    · rename_i e2 S2 hne h2
      simp only [Option.some.injEq, Prod.mk.injEq] at h
      obtain ⟨rfl, rfl⟩ := h
      intro ρ a w hS hrd
      refine wpIn_mono (Known.cx hE h2 ρ a w hS hrd) ?_
      rintro x a1 w1 ⟨rfl, hp⟩
      cases e2 with
      | normal => exact absurd rfl hne
      | ret => exact ⟨rfl, hp⟩
      | exit id => exact ⟨rfl, hp⟩
    · cases h

def isE (e : Ex) (S : St) : Option (Ex × St) → Bool
  | some (e', S') => exSame e e' && leS S S'
  | none => false

theorem KnownL.endC (hE : EnvOk E P) {n : Nat} {e : Ex} {S' : St} {l : List Code} {S : St} (h : isE e S' (runE E n rd l S) = true) : KnownL E P rd l S e S' := by
  cases hi : runE E n rd l S with
  | none => rw [hi] at h; cases h
  | some x =>
    obtain ⟨e2, S2⟩ := x
    rw [hi] at h
    simp only [isE, Bool.and_eq_true] at h
    have := exSame_ok h.1
    subst this
    exact (KnownL.ends hE l hi).to (leS_ok h.2)

theorem KnownR.endC (hE : EnvOk E P) {n : Nat} {c : Code} {e : Ex} {S S' : St} (h : isE e S' (CX.cx E n rd (.loop c) S) = true) : KnownR E P rd n c S e S' := by
  cases hi : CX.cx E n rd (.loop c) S with
  | none => rw [hi] at h; cases h
  | some x =>
    obtain ⟨e2, S2⟩ := x
    rw [hi] at h
    simp only [isE, Bool.and_eq_true] at h
    have := exSame_ok h.1
    subst this
    intro ρ a w hS hrd
    exact roundsIn_mono (fun x a' w' hp => hp.to (leS_ok h.2)) n a w (KnownR.cx hE hi ρ a w hS hrd)

theorem Known.block {id : Nat} {c : Code} {S S' : St} (k : Known E P rd c S (.exit id) S') : Known E P rd (.block id c) S .normal S' := fun ρ a w hS hrd => by
  refine wpIn_block (wpIn_mono (k ρ a w hS hrd) ?_)
  rintro x a1 w1 ⟨rfl, hp⟩
  simp only [exO, Exit.inBlock]
  exact ⟨rfl, hp⟩

def entered : List V → Nat → T V → T V
  | [], _, t => t
  | v :: l, i, t => entered l (Nat.succ i) (t.up i (some v))

theorem enterRegs_eq : ∀ (l : List V) (i : Nat) (t : T V) (k : T V → R), enterRegs l i t k = k (entered l i t)
  | [], _, _, _ => rfl
  | v :: l, i, t, k => by
    simp only [enterRegs, entered]
    rw [T.set_eq]
    exact enterRegs_eq l _ _ k

theorem known_call (hE : EnvOk E P) (hro : ∀ a, E.ro a = none) {f : Nat} {fn : Func} {c : Code} (hf : E.fn f = some fn) (hx : E.ext f = none) (hb : fn.body = some c) {hin : T O} {nxin : Nat} {args : List V} {v : V} {e : Ex} {S' : St}
    (ha : Nat.ble (len args) fn.ntmps = true) (k : Known E P none c ⟨fn.ntmps, 0, entered args 0 .e, hin, nxin, []⟩ e S') (he : e = .normal ∨ e = .ret) (hd : S'.df = [])
    (hr : resultsX E S'.regs S'.h fn.results.toList (fun l => retV (one l) S'.h S'.nx) = retV v S'.h S'.nx) :
    ∀ ρ w xs, HSat ρ hin.get nxin w → RvL ρ nxin args xs → Calls P f xs.toArray w (CallPost ρ hin.get nxin 0 w v S'.h.get S'.nx) := by
  intro ρ w xs hS hxs
  let S0 : St := ⟨fn.ntmps, 0, entered args 0 .e, hin, nxin, []⟩
  let ih : IH := fun rd c' S1 => @ite _ (rd = none ∧ c' = c ∧ S1 = S0) (Classical.propDecidable _) (some (e, S')) none
  have hI : IhOk E P ih := by
    intro rd c' S1 e1 S2 h
    by_cases hc : rd = none ∧ c' = c ∧ S1 = S0
    · have h2 : ih rd c' S1 = some (e, S') := if_pos hc
      rw [h2] at h
      cases h
      rw [hc.1, hc.2.1, hc.2.2]
      exact k
    · have h2 : ih rd c' S1 = none := if_neg hc
      rw [h2] at h
      cases h
  have hi : ih none c S0 = some (e, S') := by
    exact if_pos ⟨rfl, rfl, rfl⟩
  have hcall : callF E ih 0 hin nxin f args retV = retV v S'.h S'.nx := by
    obtain ⟨nt', bar', regs', h', nx', df'⟩ := S'
    have hd : df' = [] := hd
    subst hd
    have hr : resultsX E regs' h' fn.results.toList (fun l => retV (one l) h' nx') = retV v h' nx' := hr
    unfold callF
    simp only [hf, hb, ha, hx, enterRegs_eq]
    have hi : ih none c ⟨fn.ntmps, 0, entered args 0 .e, hin, nxin, []⟩ = some (e, ⟨nt', bar', regs', h', nx', []⟩) := hi
    rw [hi]
    rcases he with rfl | rfl <;> simp only [takeDf] <;> rw [hr] <;> rfl
  have hcall' : callF E ih 0 hin nxin f args retV = some (.normal, ⟨0, 0, .n .e (some v) .e, S'.h, S'.nx, []⟩) := hcall
  obtain ⟨v', g', n', fn', h1, _, _, h2⟩ := callF_ok hE hI (ρ := ρ) (n := nxin) (bar := 0) (g := hin) (w := w) (xs := xs) ⟨fun a v h => by (rw [hro] at h; cases h), fun a v h => by (rw [hro] at h; cases h)⟩ hS hxs hcall'
  simp only [retV, Option.some.injEq, Prod.mk.injEq, St.mk.injEq, T.n.injEq, true_and, and_true] at h1
  obtain ⟨rfl, rfl, rfl⟩ := h1
  exact callsIn_wide.1 (h2 none)
end
end CX

namespace CX
open Go
noncomputable section

variable {E : Env} {P : Program} {rd : Option Nat}

theorem KnownL.nil {S : St} : KnownL E P rd [] S .normal S := fun ρ a w hS _ => ⟨rfl, ρ, hS.lands⟩

def Env.and (E : Env) (f : Nat) (x : Ext) : Env := ⟨E.T, E.fn, fun g => match Nat.beq g f with | true => some x | false => E.ext g, E.ro⟩

theorem EnvOk.and (hE : EnvOk E P) {f : Nat} {hin : CX.T O} {nxin : Nat} {args : List V} {v : V} {hout : CX.T O} {nxout : Nat}
    (h : ∀ ρ w xs, HSat ρ hin.get nxin w → RvL ρ nxin args xs → Calls P f xs.toArray w (CallPost ρ hin.get nxin 0 w v hout.get nxout)) : EnvOk (E.and f (.known hin nxin args v hout nxout)) P := by
  refine ⟨hE.T, hE.fn, hE.mixed, fun g b hg => ?_, fun g hin' nxin' args' v' hout' nxout' hg => ?_, fun g hg => ?_⟩
  · simp only [Env.and] at hg
    split at hg
    · cases hg
    · exact hE.ext g b hg
  · simp only [Env.and] at hg
    split at hg
    · rename_i hb
      simp only [Option.some.injEq, Ext.known.injEq] at hg
      obtain ⟨rfl, rfl, rfl, rfl, rfl, rfl⟩ := hg
      rw [Nat.eq_of_beq_eq_true hb]
      exact h
    · exact hE.known g _ _ _ _ _ _ hg
  · simp only [Env.and] at hg
    split at hg
    · cases hg
    · exact hE.guard g hg

theorem known_closed (hE : EnvOk E P) (hro : ∀ a, E.ro a = none) {f : Nat} {fn : Func} {c : Code} (hf : E.fn f = some fn) (hx : E.ext f = none) (hb : fn.body = some c) {b : Bool} {e : Ex} {S' : St}
    (k : Known E P none c ⟨fn.ntmps, 0, .e, .e, 0, []⟩ e S') (he : e = .normal ∨ e = .ret) (hd : S'.df = [])
    (hr : resultsX E S'.regs S'.h fn.results.toList (fun l => retV (one l) S'.h S'.nx) = retV (.bool b) S'.h S'.nx) (w : World) :
    Calls P f #[] w fun e w' => e = .returned (.bool b) ∧ Kept w w' := by
  have h0 : HSat (fun _ => none) (T.e : T O).get 0 w := ⟨fun id o h => by simp [T.get] at h, fun id o id' o' h => by simp [T.get] at h, fun _ _ => rfl, fun _ _ h => by cases h⟩
  have := known_call hE hro hf hx hb (args := []) (by rfl) k he hd hr (fun _ => none) w [] h0 (by simp [RvL])
  refine this.mono fun e w' he => ?_
  obtain ⟨u, ρ', rfl, d1, _, _, _, d5⟩ := he
  simp only [Rv] at d1
  subst d1
  refine ⟨rfl, d5.os, d5.tape, d5.output, d5.size, fun b hb => d5.keep b hb ?_⟩
  rintro ⟨id, o, L, _, h, _⟩
  simp [T.get] at h
end
end CX

namespace CX
open Go
noncomputable section

def nodeP (E : Env) (ih : IH) (ops : List Oper) (S : St) : Option (Nat × Nat × List (V × V × Nat) × Nat × St) :=
  match S.bar with
  | 0 => match splitLast ops with
    | some (pre, o) => match o.op, o.guard with
      | .range t x, none => match seqOps E ih ops pre S fun S => some (.normal, S) with
        | some (_, ⟨nt, bar, regs, h, nx, df⟩) => match kindOf E t, evR regs x with
          | .map _ _, some (.map m) => match h.get m with
            | some (.map l c) => match bornLt c l && nodupB l with
              | true => match h.set m none fun h => putD ⟨nt, bar, regs, h, nx, df⟩ o.dst (.ptr nx 0) h (Nat.succ nx) fun S => some (.normal, S) with
                | some (_, S) => some (nx, m, l, c, S)
                | none => none
              | false => none
            | _ => none
          | _, _ => none
        | none => none
      | _, _ => none
    | none => none
  | _ => none

def qsB (ex : Ex) (S' : St) : List Out → Bool
  | [] => true
  | q :: r => match exSame q.e ex && Nat.ble q.S.nx S'.nx && leS ⟨S'.nt, S'.bar, S'.regs, S'.h, q.S.nx, S'.df⟩ q.S with
    | true => qsB ex S' r
    | false => false
def outsB (E : Env) (ih : IH) (rd : Option Nat) (i : Nat) (l : List (V × V × Nat)) (n : Nat) (b : Code) (ex : Ex) (S' : St) : List Out → Bool
  | [] => true
  | o :: r => match o.e with
    | .normal => match setN E ih rd i l n b o.it o.S with
      | some qs => match qsB ex S' qs with
        | true => outsB E ih rd i l n b ex S' r
        | false => false
      | none => false
    | _ => false

theorem qsB_ok {ex : Ex} {S' : St} : ∀ {qs : List Out}, qsB ex S' qs = true → ∀ q ∈ qs, q.e = ex ∧ WkL q.S S'
  | [], _, q, hq => by cases hq
  | p :: r, h, q, hq => by
    simp only [qsB] at h
    split at h
    · rename_i hb
      simp only [Bool.and_eq_true] at hb
      obtain ⟨⟨h1, h2⟩, h3⟩ := hb
      have hw := leS_ok h3
      rcases List.mem_cons.1 hq with rfl | hq
      · exact ⟨exSame_ok h1, hw.nt, hw.bar, Nat.le_of_ble_eq_true h2, hw.df, hw.regs, hw.h⟩
      · exact qsB_ok h q hq
    · cases h
theorem outsB_ok {E : Env} {ih : IH} {rd : Option Nat} {i : Nat} {l : List (V × V × Nat)} {n : Nat} {b : Code} {ex : Ex} {S' : St} : ∀ {rs : List Out}, outsB E ih rd i l n b ex S' rs = true →
    ∃ L, bindN (fun o => match o.e with
        | .normal => match setN E ih rd i l n b o.it o.S with
          | some qs => some (setAdv o.adv qs)
          | none => none
        | _ => some [o]) rs = some L ∧ ∀ q ∈ L, q.e = ex ∧ WkL q.S S'
  | [], _ => ⟨[], rfl, fun q hq => by cases hq⟩
  | o :: r, h => by
    simp only [outsB] at h
    split at h
    · rename_i he
      split at h
      · rename_i qs hqs
        split at h
        · rename_i hq
          obtain ⟨L, h1, h2⟩ := outsB_ok h
          refine ⟨setAdv o.adv qs ++ L, ?_, fun q hm => ?_⟩
          · simp only [bindN, he, hqs, h1]
          · rcases List.mem_append.1 hm with hm | hm
            · exact adv (qsB_ok hq) q hm
            · exact h2 q hm
        · cases h
      · cases h
    · cases h
where
  adv {ex : Ex} {S' : St} {a : Bool} : ∀ {qs : List Out}, (∀ q ∈ qs, q.e = ex ∧ WkL q.S S') → ∀ q ∈ setAdv a qs, q.e = ex ∧ WkL q.S S'
    | [], _, q, hq => by cases hq
    | p :: r, h, q, hq => by
      rcases List.mem_cons.1 (show q ∈ _ :: setAdv a r from hq) with rfl | hq
      · exact h p (.head _)
      · exact adv (fun q hq => h q (.tail _ hq)) q hq
theorem outsB_cut {E : Env} {ih : IH} {rd : Option Nat} {i : Nat} {l : List (V × V × Nat)} {n : Nat} {b : Code} {ex : Ex} {S' : St} : ∀ (k : Nat) {rs : List Out}, outsB E ih rd i l n b ex S' (rs.take k) = true → outsB E ih rd i l n b ex S' (rs.drop k) = true → outsB E ih rd i l n b ex S' rs = true
  | 0, _, _, h => h
  | k + 1, [], h, _ => h
  | k + 1, o :: r, h1, h2 => by
    simp only [List.take_succ_cons, outsB] at h1
    simp only [outsB]
    split at h1
    · rename_i he
      split at h1
      · rename_i qs hqs
        split at h1
        · rename_i hq
          exact outsB_cut k h1 h2
        · cases h1
      · cases h1
    · cases h1

section
variable {P : Program} {E : Env} (hE : EnvOk E P) {ih : IH} (hI : IhOk E P ih)
include hE hI

theorem nodeG_ok {rd : Option Nat} {ops : Array Oper} {id : Nat} {c0 b : Code} {S : St} {i m : Nat} {l : List (V × V × Nat)} {c : Nat} {S1 : St} (hP : nodeP E ih ops.toList S = some (i, m, l, c, S1)) {it : It} (hit' : it = .conc none l ∨ it = .abs none) {rs : List Out} (hset : setN E ih rd i l 3000 (.seq c0 b) it S1 = some rs)
    {ex : Ex} {nt4 bar4 : Nat} {regs4 : T V} {h4 : T O} {nx4 : Nat} {df4 : List Nat} (hg : ∀ q ∈ rs, q.e = ex ∧ WkL q.S ⟨nt4, bar4, regs4, h4, nx4, df4⟩) {ρ : Nm} {a : Act} {w : World} (hS : Sat E ρ S a w) (hrd : RdOk ρ S.nx rd) :
    (Code.seq (.seq (.region id ops false) c0) b).wpIn (Fw (rdB ρ rd)) 0 P (CPost E ρ S w ex ⟨nt4, bar4, regs4, h4.up m (some (.map l c)), nx4, df4⟩) a w := by
  unfold nodeP at hP
  split at hP
  · rename_i hbar
    split at hP
    · rename_i pre o hsp
      have hops := splitLast_ok hsp
      split at hP
      · rename_i t x hop hgd
        split at hP
        · rename_i e1 nt bar regs hh nx df hpre
          split at hP
          · rename_i ke ee m hk hev
            split at hP
            · rename_i l c hm
              split at hP
              · rename_i hbn
                simp only [Bool.and_eq_true] at hbn
                obtain ⟨hborn, hnd⟩ := hbn
                rw [T.set_eq] at hP
                split at hP
                · rename_i e9 S9 hput
                  simp only [Option.some.injEq, Prod.mk.injEq] at hP
                  obtain ⟨rfl, rfl, rfl, rfl, rfl⟩ := hP
                  obtain ⟨hput, hd⟩ := putD_ok hput
                  simp only [Option.some.injEq, Prod.mk.injEq] at hput
                  obtain ⟨rfl, rfl⟩ := hput
                  have hsz : ops.size = pre.length + 1 := by rw [← Array.length_toList, hops]; simp
                  refine wpIn_seq (wpIn_seq (wpIn_region ?_))
                  rw [List.range_eq_range', hsz, List.range'_1_concat, Nat.zero_add]
                  refine seqTail_ok hE hI (ro := rdB ρ rd) ops pre 0 S (tail := [pre.length]) (fun j o' hj => ?_) hpre hS.lands (fun S1 ρ1 a1 w1 hk1 hL1 => ?_)
                  · rw [Nat.zero_add, ← Array.getElem?_toList, hops, List.getElem?_append_left (List.getElem?_eq_some_iff.1 hj).1]; exact hj
                  · simp only [Option.some.injEq, Prod.mk.injEq] at hk1
                    obtain ⟨_, rfl⟩ := hk1
                    have h0 : ops[pre.length]? = some o := by rw [← Array.getElem?_toList, hops]; simp
                    have hb0 : bar = 0 := hL1.bar.trans hbar
                    simp only [wpOpsIn, h0]
                    rw [if_pos (by simp [Region.wanted, hgd])]
                    refine ⟨fun _ _ => trivial, ?_⟩
                    show o.uponIn (Fw (rdB ρ rd)) 0 P a1 _ _ ((o.semAt (rdB ρ rd) a1.eval).run P w1)
                    -- the map
                    have hS1 := hL1.sat.hs
                    obtain ⟨hmn, hob⟩ := hS1.objs m _ hm
                    simp only [ObjOk] at hob
                    obtain ⟨L, es, hLm, hes, hrv⟩ := hob
                    have hx := evR_ok hL1.sat.regs x _ hev
                    simp only [Rv] at hx
                    obtain ⟨_, L', hL', hx⟩ := hx
                    rw [hLm] at hL'
                    simp only [Option.some.injEq] at hL'
                    subst hL'
                    have ht : P.underlying t = some (.map ke ee) := by
                      unfold kindOf at hk
                      split at hk
                      · rename_i ty hty
                        obtain ⟨d, d1, _, d3⟩ := (hE.T t ty hty).und
                        rw [hk] at d3
                        simp only [KdOk] at d3
                        rw [d1, d3]
                      · cases hk
                    have hrun : (execOp a1.eval o).run P w1 = .ok (.value (.pointer (some ⟨w1.heap.size, 0, none⟩))) (w1.alloc (.mapIter (some L.b) c #[] c)) := by
                      simp [execOp, hop, hx, run_range_map w1 t ke ee L.b es c ht hes]
                    rw [Oper.semAt_eq _ _ _ (fun c hc => by rw [hop] at hc; cases hc), hrun, Oper.uponIn_value]
                    have hLb := hS1.blk m L hLm
                    have hw2 : ∀ b, b < w1.heap.size → (w1.alloc (.mapIter (some L.b) c #[] c)).heap[b]? = w1.heap[b]? := fun b hb => (MapKept.heap_alloc w1 _).2 b hb
                    have hw2n := (MapKept.heap_alloc w1 (.mapIter (some L.b) c #[] c)).1
                    have hw2s : (w1.alloc (.mapIter (some L.b) c #[] c)).heap.size = w1.heap.size + 1 := by simp
                    have hag := agree_put ρ1 nx ⟨w1.heap.size, 0, 0⟩
                    have hext : ∀ i L, i < nx → ρ1 i = some L → (ρ1.put nx ⟨w1.heap.size, 0, 0⟩) i = some L := fun i L hi hl => by rw [hag i hi]; exact hl
                    obtain ⟨g1, g2, g3⟩ := put_ok (dst := o.dst) (v := .ptr nx 0) (u := .pointer (some ⟨w1.heap.size, 0, none⟩)) (hL1.sat.regs.ext (Nat.le_succ _) hext) (by simp [Rv, put_same]) hL1.sat.size hd
                    have hup : ∀ id o, (hh.up m none).get id = some o → id ≠ m ∧ hh.get id = some o := fun id o ho => by
                      rw [T.get_up] at ho
                      split at ho
                      · cases ho
                      · exact ⟨‹_›, ho⟩
                    have hHS : HSat (ρ1.put nx ⟨w1.heap.size, 0, 0⟩) (hh.up m none).get (nx + 1) (w1.alloc (.mapIter (some L.b) c #[] c)) := by
                      refine ⟨fun id o ho => ?_, fun id o id' o' h1 h2 hne L1 L2 e1 e2 => ?_, dom_put hS1.dom _, fun id L0 hl => ?_⟩
                      · obtain ⟨_, ho⟩ := hup _ _ ho
                        obtain ⟨i1, i2⟩ := hS1.objs id o ho
                        exact ⟨Nat.lt_succ_of_lt i1, ObjOk.ext i1 (Nat.le_succ _) hext (fun L0 hl => hw2 _ (hS1.blk id L0 hl)) o i2⟩
                      · obtain ⟨_, h1⟩ := hup _ _ h1
                        obtain ⟨_, h2⟩ := hup _ _ h2
                        rw [hag id (hS1.objs id o h1).1] at e1
                        rw [hag id' (hS1.objs id' o' h2).1] at e2
                        exact hS1.sep id o id' o' h1 h2 hne L1 L2 e1 e2
                      · rw [hw2s]
                        simp only [Nm.put] at hl
                        split at hl
                        · simp only [Option.some.injEq] at hl; subst hl; exact Nat.lt_succ_self _
                        · have := hS1.blk id L0 hl; omega
                    have hFr : Fr (Own ρ1 hh.get bar) w1 (Own (ρ1.put nx ⟨w1.heap.size, 0, 0⟩) (hh.up m none).get bar) (w1.alloc (.mapIter (some L.b) c #[] c)) := by
                      refine ⟨rfl, rfl, rfl, by rw [hw2s]; omega, fun b hb _ => hw2 b hb, fun b ⟨id, o, L0, h1, h2, h3, h4⟩ => .inl ?_⟩
                      obtain ⟨_, h2⟩ := hup _ _ h2
                      rw [hag id (hS1.objs id o h2).1] at h3
                      exact ⟨id, o, L0, h1, h2, h3, h4⟩
                    have hL2 : Lands E ρ S w ⟨nt, bar, upD regs o.dst (.ptr nx 0), hh.up m none, nx + 1, df⟩ (a1.put o.dst (.pointer (some ⟨w1.heap.size, 0, none⟩))) (w1.alloc (.mapIter (some L.b) c #[] c)) (ρ1.put nx ⟨w1.heap.size, 0, 0⟩) :=
                      hL1.trans ⟨⟨hHS, g2, g1, by rw [g3]; exact hL1.sat.df.ext (Nat.le_succ _) hext, hL1.sat.ro.fr hFr⟩, hag, Nat.le_succ _, rfl, rfl, hFr⟩
                    have hit : ∀ it : It, (it = .conc none l ∨ it = .abs none) → ItOk (ρ1.put nx ⟨w1.heap.size, 0, 0⟩) (nx + 1) (hh.up m none).get nx m w1.heap.size L.b l c it (w1.alloc (.mapIter (some L.b) c #[] c)) := by
                      intro it hit
                      refine ⟨⟨Nat.lt_succ_self _, 0, put_same _ _ _⟩, ⟨by show m < nx + 1; have : m < nx := hmn; omega, L, hext m L hmn hLm, rfl⟩, ⟨by rw [hw2s]; omega, by rw [hw2s]; omega, by omega⟩, fun id o L0 h1 h2 => ?_, es, c, #[], c, hw2n, (hw2 _ hLb).trans hes, RvM.ext (Nat.le_succ _) hext _ _ hrv, bornLt_ok hborn hrv, Nat.le_refl _, Nat.le_refl _, nodupB_ok hnd hrv, fun k v b hl => ?_, ?_⟩
                      · obtain ⟨hne, h1⟩ := hup _ _ h1
                        rw [hag id (hS1.objs id o h1).1] at h2
                        exact ⟨Nat.ne_of_lt (hS1.blk id L0 h2), hS1.sep id o m _ h1 hm hne L0 L h2 hLm⟩
                      · rcases hit with rfl | rfl <;> cases hl
                      · rcases hit with rfl | rfl
                        · have : leftOf es #[] = es := by simp [leftOf]
                          show RvM _ _ l (leftOf es #[]).toList
                          rw [this]
                          exact RvM.ext (Nat.le_succ _) hext _ _ hrv
                        · trivial
                    show c0.wpIn (Fw (rdB ρ rd)) 0 P (Exit.then (b.wpIn (Fw (rdB ρ rd)) 0 P (CPost E ρ S w ex _)) (CPost E ρ S w ex _)) _ _
                    have then_mono : ∀ {A B : Exit → Act → World → Prop}, (∀ e a w, A e a w → B e a w) → ∀ e a w, Exit.then (b.wpIn (Fw (rdB ρ rd)) 0 P A) A e a w → Exit.then (b.wpIn (Fw (rdB ρ rd)) 0 P B) B e a w := fun hab e a w he => by
                      cases e <;> first | exact wpIn_mono he hab | exact hab _ _ _ he
                    refine wpIn_mono (nseq_ok hE hI (ρ0 := ρ) (S0 := S) (w0 := w) (i := nx) (m := m) (bi := w1.heap.size) (bm := L.b) (l := l) (cl := c) hbar hL1.fr.size (setN_ok hE hI hbar hL1.fr.size hrd 2999).1 hset hL2 (hit _ hit')) (then_mono ?_)
                    rintro x' a' w' ⟨q, hq, rfl, ρ', hO⟩
                    have hmq := hg q hq
                    obtain ⟨rfl, hwk⟩ := hmq
                    have hL4 := hO.L.wkL hwk
                    have hI4 := hO.it.wkL hwk
                    refine ⟨rfl, ρ', ?_⟩
                    obtain ⟨r1, L4, r2, r3⟩ := hI4.rm
                    obtain ⟨es4, since4, seen4, c04, e1', e2', e3', _⟩ := hI4.ex
                    have hup4 : ∀ id o, (h4.up m (some (.map l c))).get id = some o → (id = m ∧ o = .map l c) ∨ (id ≠ m ∧ h4.get id = some o) := fun id o ho => by
                      rw [T.get_up] at ho
                      split at ho
                      · simp only [Option.some.injEq] at ho; exact .inl ⟨‹_›, ho.symm⟩
                      · exact .inr ⟨‹_›, ho⟩
                    have hS4 := hL4.sat.hs
                    refine ⟨⟨⟨fun id o ho => ?_, fun id o id' o' h1 h2 hne L1 L2 e1 e2 => ?_, hS4.dom, hS4.blk⟩, hL4.sat.size, hL4.sat.regs, hL4.sat.df, ⟨hL4.sat.ro.at_, fun y v hy id o L0 h1 h2 h3 => ?_⟩⟩, hL4.ag, hL4.le, hL4.nt, hL4.bar, ?_⟩
                    · rcases hup4 _ _ ho with ⟨rfl, rfl⟩ | ⟨_, ho⟩
                      · simp only [ObjOk]
                        exact ⟨r1, L4, es4, r2, by rw [r3]; exact e2', e3'⟩
                      · exact hS4.objs id o ho
                    · rcases hup4 _ _ h1 with ⟨z1, _⟩ | ⟨n1, y1⟩
                      · rcases hup4 _ _ h2 with ⟨z2, _⟩ | ⟨n2, y2⟩
                        · exact absurd (z1.trans z2.symm) hne
                        · rw [z1, r2] at e1
                          simp only [Option.some.injEq] at e1
                          rw [← e1, r3]
                          exact Ne.symm (hI4.sep id' o' L2 y2 e2).2
                      · rcases hup4 _ _ h2 with ⟨z2, _⟩ | ⟨n2, y2⟩
                        · rw [z2, r2] at e2
                          simp only [Option.some.injEq] at e2
                          rw [← e2, r3]
                          exact (hI4.sep id o L1 y1 e1).2
                        · exact hS4.sep id o id' o' y1 y2 hne L1 L2 e1 e2
                    · rcases hup4 _ _ h2 with ⟨rfl, rfl⟩ | ⟨n2, h2⟩
                      · rw [r2] at h3
                        simp only [Option.some.injEq] at h3
                        subst h3
                        obtain ⟨_, u', hu', _⟩ := hL4.sat.ro.at_ y v hy
                        rw [r3]
                        exact cell_ne hu' e2'
                      · exact hL4.sat.ro.sep y v hy id o L0 h1 h2 h3
                    · refine ⟨hL4.fr.os, hL4.fr.tape, hL4.fr.output, hL4.fr.size, hL4.fr.keep, fun b' ⟨id, o, L0, h1, h2, h3, h5⟩ => ?_⟩
                      rcases hup4 _ _ h2 with ⟨rfl, rfl⟩ | ⟨n2, h2⟩
                      · rw [r2] at h3
                        simp only [Option.some.injEq] at h3
                        subst h3
                        have := hL1.fr.own L.b ⟨id, _, L, by show bar ≤ id; rw [hb0]; exact Nat.zero_le _, hm, hLm, rfl⟩
                        rw [← h5, r3]
                        exact this
                      · exact hL4.fr.own b' ⟨id, o, L0, h1, h2, h3, h5⟩
                · cases hP
              · cases hP
            · cases hP
          · cases hP
        · cases hP
      · cases hP
    · cases hP
  · cases hP
end

theorem Known.seq {E : Env} {P : Program} {rd : Option Nat} {a b : Code} {S S1 : St} {e : Ex} {S' : St} (k1 : Known E P rd a S .normal S1) (k2 : Known E P rd b S1 e S') : Known E P rd (.seq a b) S e S' := fun ρ ac w hS hrd => by
  refine wpIn_seq (wpIn_mono (k1 ρ ac w hS hrd) ?_)
  rintro x a1 w1 ⟨rfl, ρ1, hL⟩
  have := k2 ρ1 a1 w1 hL.sat (hrd.ag hL.ag hL.le)
  rw [rdB_ag hrd hL.ag] at this
  exact wpIn_mono this (fun x a2 w2 hp => hp.after hL)

theorem Known.range {E : Env} {P : Program} (hE : EnvOk E P) {n : Nat} {rd : Option Nat} {ops : Array Oper} {id : Nat} {c0 b : Code} {S S1 : St} {i m : Nat} {l : List (V × V × Nat)} {c : Nat} (hP : nodeP E (CX.cx E n) ops.toList S = some (i, m, l, c, S1))
    {rs : List Out} (h1 : setN E (CX.cx E n) rd i l 2999 c0 (.conc none l) S1 = some rs) {ex : Ex} {S' : St} (h2 : outsB E (CX.cx E n) rd i l 2999 b ex S' rs = true) :
    Known E P rd (.seq (.seq (.region id ops false) c0) b) S ex ⟨S'.nt, S'.bar, S'.regs, S'.h.up m (some (.map l c)), S'.nx, S'.df⟩ := fun ρ a w hS hrd => by
  obtain ⟨L, hL, hq⟩ := outsB_ok h2
  have hI := (cx_ok hE n).1
  exact nodeG_ok hE hI hP (.inl rfl) (rs := L) (setN_seq h1 hL) hq hS hrd
where
  setN_seq {E : Env} {ih : IH} {rd : Option Nat} {i : Nat} {l : List (V × V × Nat)} {c0 b : Code} {it : It} {S1 : St} {rs L : List Out} (h1 : setN E ih rd i l 2999 c0 it S1 = some rs) (h2 : bindN (fun o => match o.e with
        | .normal => match setN E ih rd i l 2999 b o.it o.S with
          | some qs => some (setAdv o.adv qs)
          | none => none
        | _ => some [o]) rs = some L) : setN E ih rd i l 3000 (.seq c0 b) it S1 = some L := by
    show (match setN E ih rd i l 2999 c0 it S1 with
      | some rs => bindN (fun o => match o.e with
        | .normal => match setN E ih rd i l 2999 b o.it o.S with
          | some qs => some (setAdv o.adv qs)
          | none => none
        | _ => some [o]) rs
      | none => none) = some L
    rw [h1]
    exact h2

def parts : Code → Option (Code × Code × Nat × Array Oper × Code × Code)
  | .seq r0 (.seq r1 (.seq (.seq (.region id ops false) c0) b)) => some (r0, r1, id, ops, c0, b)
  | _ => none
theorem parts_ok {c r0 r1 : Code} {id : Nat} {ops : Array Oper} {c0 b : Code} (h : parts c = some (r0, r1, id, ops, c0, b)) : c = .seq r0 (.seq r1 (.seq (.seq (.region id ops false) c0) b)) := by
  unfold parts at h
  split at h
  · simp only [Option.some.injEq, Prod.mk.injEq] at h
    obtain ⟨rfl, rfl, rfl, rfl, rfl, rfl⟩ := h
    rfl
  · cases h

def rngChk (E : Env) (n : Nat) (rd : Option Nat) (c : Code) (S z : St) (f : List Out → List Out) : Bool :=
  match parts c with
  | some (r0, r1, _, ops, c0, b) => match runL E n rd [r0, r1] S with
    | some S2 => match nodeP E (CX.cx E n) ops.toList S2 with
      | some (i, m, l, _, S1) => match setN E (CX.cx E n) rd i l 2999 c0 (.conc none l) S1 with
        | some rs => z.h.set m none fun h => outsB E (CX.cx E n) rd i l 2999 b .ret ⟨z.nt, z.bar, z.regs, h, z.nx, z.df⟩ (f rs)
        | none => false
      | none => false
    | none => false
  | none => false
def rngEnd (E : Env) (n : Nat) (rd : Option Nat) (c : Code) (S z : St) : Bool :=
  match parts c with
  | some (r0, r1, _, ops, _, _) => match runL E n rd [r0, r1] S with
    | some S2 => match nodeP E (CX.cx E n) ops.toList S2 with
      | some (_, m, l, c, _) => z.h.set m none fun h => h.set m (some (.map l c)) fun h => leS z ⟨z.nt, z.bar, z.regs, h, z.nx, z.df⟩
      | none => false
    | none => false
  | none => false

theorem rngChk_cut {E : Env} {n : Nat} {rd : Option Nat} {c : Code} {S z : St} (k : Nat) {f : List Out → List Out} (h1 : rngChk E n rd c S z (fun l => (f l).take k) = true) (h2 : rngChk E n rd c S z (fun l => (f l).drop k) = true) : rngChk E n rd c S z f = true := by
  unfold rngChk at h1 h2 ⊢
  cases hp : parts c with
  | none => rw [hp] at h1; cases h1
  | some x =>
    obtain ⟨r0, r1, id, ops, c0, b⟩ := x
    simp only [hp] at h1 h2 ⊢
    cases hr : runL E n rd [r0, r1] S with
    | none => rw [hr] at h1; cases h1
    | some S2 =>
      simp only [hr] at h1 h2 ⊢
      cases hn : nodeP E (CX.cx E n) ops.toList S2 with
      | none => rw [hn] at h1; cases h1
      | some y =>
        obtain ⟨i, m, l, cc, S1⟩ := y
        simp only [hn] at h1 h2 ⊢
        cases hs : setN E (CX.cx E n) rd i l 2999 c0 (.conc none l) S1 with
        | none => rw [hs] at h1; cases h1
        | some rs =>
          simp only [hs, T.set_eq] at h1 h2 ⊢
          exact outsB_cut k h1 h2

theorem Known.rangeC {E : Env} {P : Program} (hE : EnvOk E P) {n : Nat} {rd : Option Nat} {c : Code} {S z : St} (h1 : rngChk E n rd c S z (fun l => l) = true) (h2 : rngEnd E n rd c S z = true) : Known E P rd c S .ret z := by
  unfold rngChk at h1
  unfold rngEnd at h2
  cases hp : parts c with
  | none => rw [hp] at h1; cases h1
  | some x =>
    obtain ⟨r0, r1, id, ops, c0, b⟩ := x
    simp only [hp] at h1 h2
    rw [parts_ok hp]
    cases hr : runL E n rd [r0, r1] S with
    | none => rw [hr] at h1; cases h1
    | some S2 =>
      simp only [hr] at h1 h2
      cases hn : nodeP E (CX.cx E n) ops.toList S2 with
      | none => rw [hn] at h1; cases h1
      | some y =>
        obtain ⟨i, m, l, cc, S1⟩ := y
        simp only [hn] at h1 h2
        cases hs : setN E (CX.cx E n) rd i l 2999 c0 (.conc none l) S1 with
        | none => rw [hs] at h1; cases h1
        | some rs =>
          simp only [hs, T.set_eq] at h1 h2
          have k := (Known.range hE (id := id) hn hs h1).to (leS_ok h2)
          simp only [runL] at hr
          split at hr
          · rename_i S3 h3
            split at hr
            · rename_i S4 h4
              simp only [Option.some.injEq] at hr
              subst hr
              exact Known.seq (Known.cx hE h3) (Known.seq (Known.cx hE h4) k)
            · cases hr
          · cases hr
end
end CX
