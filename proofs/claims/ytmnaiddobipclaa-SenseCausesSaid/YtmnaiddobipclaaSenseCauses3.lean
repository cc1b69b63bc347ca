/-
  Texts of the executors: SxLoop, SxU, SxC, SxFrFn, SxTy, SxT, SeFns, SeFeel, SeHearP, CaP, SeHear, CaBef, CaP2.
-/
import Derived.Test.YtmnaiddobipclaaSenseCauses2
import Derived.Sort.LoopGhostIn
import Derived.Test.YtmnaiddobipclaaProg
import Derived.KernelRfl
/-
  SX: loops: an invariant state with numbers of its own, met from the entry and again from the end of each round.
-/
namespace SX
open Go

/-- Whatever fits S fits T, under other names. -/
def Sub (lo : Nat) (S T : St) : Prop :=
  ∀ ρ R a w, Sat ρ R S a w → lo ≤ S.m.next → ∃ ρ', Sat ρ' R T a w ∧ agree lo ρ ρ' ∧ lo ≤ T.m.next ∧ ∀ b, Owns ρ' T.m b → Owns ρ S.m b

def loopQ {σ : Type} (lo : Nat) (T : σ → St) (Inv : σ → Prop) (μ : σ → Nat) (Q : Exit → St → Prop) (x : σ) : Exit → St → Prop
  | .normal, S => ∃ x', Inv x' ∧ μ x' < μ x ∧ Sub lo S (T x')
  | e, S => Q e S

theorem loop_ok {P : Program} {r : Option Nat} {lo : Nat} {c : Code} {Q : Exit → St → Prop} {S : St} {σ : Type} (T : σ → St) (Inv : σ → Prop) (μ : σ → Nat) (x0 : σ) (h0 : Inv x0) (hs : Sub lo S (T x0))
    (round : ∀ x, Inv x → SWP P r lo c (loopQ lo T Inv μ Q x) (T x)) : SWP P r lo (.loop c) Q S := by
  intro ρ R a w hS hd hl
  obtain ⟨ρ1, hS1, hag1, hl1, hown1⟩ := hs ρ R a w hS hl
  refine Go.wpIn_loop_ghost (fun n a' w' => ∃ x ρ' R', Inv x ∧ μ x = n ∧ Sat ρ' R' (T x) a' w' ∧ a'.defers = [] ∧ Rel lo ρ R (Owns ρ S.m) w ρ' R' (Owns ρ' (T x).m) w' (T x).m.next) (μ x0)
    ⟨x0, ρ1, R, h0, rfl, hS1, hd, ⟨(Fr.refl _ _).less hown1, fun _ h => h, hag1, hl1, fun _ h => .inl h⟩⟩ ?_
  rintro n a1 w1 ⟨x, ρ2, R2, hx, rfl, hS2, hd2, hr2⟩
  refine wpIn_mono (round x hx ρ2 R2 a1 w1 hS2 hd2 hr2.le) ?_
  rintro e a3 w3 ⟨ρ3, R3, S3, hS3, hd3, hr3, hq⟩
  have hr := hr2.trans hr3 (Nat.le_refl _)
  cases e with
  | normal =>
    obtain ⟨x', hx', hlt, hsub⟩ := hq
    obtain ⟨ρ4, hS4, hag4, hl4, hown4⟩ := hsub ρ3 R3 a3 w3 hS3 hr3.le
    refine ⟨μ x', hlt, x', ρ4, R3, hx', rfl, hS4, hd3, ?_⟩
    exact ⟨hr.fr.less hown4, hr.sub, hr.ag.trans hag4, hl4, hr.rn⟩
  | _ => exact ⟨ρ3, R3, S3, hS3, hd3, hr, hq⟩

/-! ### Meeting a state, computed -/

abbrev Sgm := List (Nat × Option Nat)

mutual
def infSV : SV → SV → Sgm → Sgm
  | .at i' _, .at i _, s => match look s i' with
    | some _ => s
    | none => (i', some i) :: s
  | .at i' _, .raw _, s => match look s i' with
    | some _ => s
    | none => (i', none) :: s
  | .agg l', .agg l, s => infL l' l s
  | .tup l', .tup l, s => infL l' l s
  | .fn _ a' b', .fn _ a b, s => infL b' b (infL a' a s)
  | _, _, s => s
def infL : List SV → List SV → Sgm → Sgm
  | x' :: r', x :: r, s => infL r' r (infSV x' x s)
  | _, _, s => s
end

def infRegs (S : List (Nat × SV)) : List (Nat × SV) → Sgm → Sgm
  | [], s => s
  | (t, v') :: r, s => match look S t with
    | some v => infRegs S r (infSV v' v s)
    | none => infRegs S r s

def infMem (S : List (Nat × Res)) : List (Nat × Res) → Sgm → Sgm
  | [], s => s
  | (i', .cells l') :: r, s => match look s i' with
    | some (some i) => match look S i with
      | some (.cells l) => infMem S r (infL l' l s)
      | _ => infMem S r s
    | _ => infMem S r s
  | _ :: r, s => infMem S r s

/-- The bound of names, the low bound, the binding. -/
structure Bd where
  s : Sgm
  lo : Nat
  nx : Nat

def bnd (B : Bd) (i' i : Nat) : Bool :=
  bltN i' B.nx && (match look B.s i' with | some (some j) => beqN j i | _ => false) && (match bltN i' B.lo with | true => beqN i' i | false => true)

def bndN (B : Bd) (i' : Nat) : Bool :=
  bltN i' B.nx && (match look B.s i' with | some none => true | _ => false) && bleN B.lo i'

mutual
def ckSV (B : Bd) : SV → SV → Option (List Prop)
  | .int k' n', .int k n => match decide (k' = k) with
    | true => some [n' = n]
    | false => none
  | .prop p', .prop p => some [p' ↔ p]
  | .prop p', .bool b => some [p' ↔ b = true]
  | .bool b', .bool b => match sameB b' b with
    | true => some []
    | false => none
  | .str s', .str s => some [s' = s]
  | .at i' o', .at i o => match beqN o' o && bnd B i' i with
    | true => some []
    | false => none
  | .at i' 0, .raw (.slice none 0 0) => match bndN B i' with
    | true => some []
    | false => none
  | .el i' es' x' o', .el i es x o => match beqN o' o && beqN es' es && bnd B i' i with
    | true => some [x' = x]
    | false => none
  | .raw v', .raw v => some [v' = v]
  | .agg l', .agg l => ckL B l' l
  | .tup l', .tup l => ckL B l' l
  | .fn f' a' b', .fn f a b => match ckL B a' a with
    | some p => match ckL B b' b with
      | some q => some ((f' = f) :: (p ++ q))
      | none => none
    | none => none
  | _, _ => none
def ckL (B : Bd) : List SV → List SV → Option (List Prop)
  | [], [] => some []
  | x' :: r', x :: r => match ckSV B x' x with
    | some p => match ckL B r' r with
      | some q => some (p ++ q)
      | none => none
    | none => none
  | _, _ => none
end

def ckRegs (B : Bd) (S : List (Nat × SV)) : List (Nat × SV) → Option (List Prop)
  | [] => some []
  | (t, .unk) :: r => match look S t with
    | some _ => ckRegs B S r
    | none => none
  | (t, v') :: r => match look S t with
    | some v => match ckSV B v' v with
      | some p => match ckRegs B S r with
        | some q => some (p ++ q)
        | none => none
      | none => none
    | none => none

structure SlEq (s' s : Sl) : Prop where
  n : s'.n = s.n
  row : ∀ r, r < s.n → dEqs s.ks (s.f r) (s'.f r) 0

def ckRes (B : Bd) (Sm : List (Nat × Res)) (i' : Nat) : Res → Option (List Prop)
  | .gone => match bltN i' B.nx with
    | true => some []
    | false => none
  | .cells l' => match look B.s i' with
    | some (some i) => match look Sm i with
      | some (.cells l) => match bnd B i' i with
        | true => ckL B l' l
        | false => none
      | _ => none
    | _ => none
  | .arr ex' s' => match look B.s i' with
    | some (some i) => match look Sm i with
      | some (.arr ex s) => match bnd B i' i && kdsEq s'.ks s.ks && (!ex' || ex) with
        | true => some [SlEq s' s]
        | false => none
      | _ => none
    | some none => match bndN B i' && !ex' with
      | true => some [s'.n = 0]
      | false => none
    | none => none

def ckMem (B : Bd) (Sm : List (Nat × Res)) : List (Nat × Res) → Option (List Prop)
  | [] => some []
  | (i', x') :: r => match ckRes B Sm i' x' with
    | some p => match ckMem B Sm r with
      | some q => some (p ++ q)
      | none => none
    | none => none

def ckSl (B : Bd) (Sr : List (Nat × Sl)) (i' : Nat) (s' : Sl) : Option (List Prop) :=
  match look B.s i' with
  | some (some i) => match look Sr i with
    | some s => match bnd B i' i && kdsEq s'.ks s.ks with
      | true => some [SlEq s' s]
      | false => none
    | none => none
  | some none => match bndN B i' with
    | true => some [s'.n = 0]
    | false => none
  | none => none

def ckRo (B : Bd) (Sr : List (Nat × Sl)) : List (Nat × Sl) → Option (List Prop)
  | [] => some []
  | (i', s') :: r => match ckSl B Sr i' s' with
    | some p => match ckRo B Sr r with
      | some q => some (p ++ q)
      | none => none
    | none => none

/-- The entries that stand for what is there. -/
def imgs (B : Bd) : List (Nat × Res) → List Nat
  | [] => []
  | (_, .gone) :: r => imgs B r
  | (i', _) :: r => match look B.s i' with
    | some (some i) => i :: imgs B r
    | _ => imgs B r

def nodupN : List Nat → Bool
  | [] => true
  | x :: r => !memN x r && nodupN r

def allP : List Prop → Prop
  | [] => True
  | [p] => p
  | p :: r => p ∧ allP r

structure StuckS (B : Bd) (S T : St) : Prop where
  out : False

def idB : Nat → Sgm
  | 0 => []
  | n + 1 => (n, some n) :: idB n

def bdOf (lo : Nat) (S T : St) : Bd := ⟨infMem S.m.mem T.m.mem (infRegs S.regs T.regs (idB lo)), lo, T.m.next⟩

def subP (lo : Nat) (S T : St) : Prop :=
  match bdOf lo S T with
  | B => match beqN S.nt T.nt && bleN lo T.m.next && nodupN (imgs B T.m.mem) with
    | false => StuckS B S T
    | true => match ckRegs B S.regs T.regs, ckMem B S.m.mem T.m.mem, ckRo B S.m.ro T.m.ro with
      | some p, some q, some r => allP (p ++ (q ++ r))
      | _, _, _ => StuckS B S T

theorem allP_ok : ∀ l : List Prop, allP l → ∀ p ∈ l, p
  | [], _, _, h => by simp at h
  | [p], h, q, hq => by
    simp only [List.mem_singleton] at hq
    subst hq; exact h
  | p :: q :: r, h, x, hx => by
    rcases List.mem_cons.1 hx with rfl | hx
    · exact h.1
    · exact allP_ok (q :: r) h.2 x hx

def ren (B : Bd) (ρ : Nat → Value) (i' : Nat) : Value :=
  match bltN i' B.lo with
  | true => ρ i'
  | false => match look B.s i' with
    | some (some i) => ρ i
    | some none => .slice none 0 0
    | none => ρ i'

theorem bnd_ok {B : Bd} {i' i : Nat} (h : bnd B i' i = true) (ρ : Nat → Value) : i' < B.nx ∧ look B.s i' = some (some i) ∧ ren B ρ i' = ρ i := by
  simp only [bnd, Bool.and_eq_true, bltN_iff] at h
  obtain ⟨⟨h1, h2⟩, h3⟩ := h
  split at h2
  · rename_i j hj
    have := beqN_eq h2
    subst this
    refine ⟨h1, hj, ?_⟩
    unfold ren
    split
    · rename_i hb
      rw [hb] at h3
      rw [beqN_eq h3]
    · simp [hj]
  · cases h2

theorem bndN_ok {B : Bd} {i' : Nat} (h : bndN B i' = true) (ρ : Nat → Value) : i' < B.nx ∧ ren B ρ i' = .slice none 0 0 := by
  simp only [bndN, Bool.and_eq_true, bltN_iff, bleN_iff] at h
  obtain ⟨⟨h1, h2⟩, h3⟩ := h
  refine ⟨h1, ?_⟩
  split at h2
  · rename_i hj
    unfold ren
    split
    · rename_i hb
      have : i' < B.lo := by simpa using hb
      omega
    · simp [hj]
  · cases h2

mutual
theorem ckSV_ok {B : Bd} {ρ : Nat → Value} {n : Nat} : ∀ (v' v : SV) (ps : List Prop), ckSV B v' v = some ps → (∀ p ∈ ps, p) → v.lt ρ n → den (ren B ρ) v' = den ρ v ∧ v'.lt (ren B ρ) B.nx := by
  intro v' v ps h hp hl
  unfold ckSV at h
  split at h
  · split at h
    · rename_i hk
      simp only [Option.some.injEq] at h
      subst h
      have hk := of_decide_eq_true hk
      have := hp _ (List.mem_singleton.2 rfl)
      exact ⟨by simp only [den]; rw [hk, this], trivial⟩
    · cases h
  · simp only [Option.some.injEq] at h
    subst h
    have := hp _ (List.mem_singleton.2 rfl)
    exact ⟨by simp only [den]; rw [propext this], trivial⟩
  · rename_i p' b
    simp only [Option.some.injEq] at h
    subst h
    have := hp _ (List.mem_singleton.2 rfl)
    refine ⟨?_, trivial⟩
    simp only [den]
    congr 1
    rw [Bool.eq_iff_iff]
    exact (@decide_eq_true_iff _ (Classical.propDecidable _)).trans this
  · rename_i b' b
    split at h
    · rename_i hb
      rw [sameB_eq] at hb
      have := eq_of_beq hb
      exact ⟨by simp only [den]; rw [this], trivial⟩
    · cases h
  · simp only [Option.some.injEq] at h
    subst h
    have := hp _ (List.mem_singleton.2 rfl)
    exact ⟨by simp only [den]; rw [this], trivial⟩
  · rename_i i' o' i o
    split at h
    · rename_i hb
      simp only [Bool.and_eq_true] at hb
      obtain ⟨h1, h2, h3⟩ := bnd_ok hb.2 ρ
      have := beqN_eq hb.1
      subst this
      exact ⟨by simp only [den]; rw [h3], h1, by rw [h3]; exact hl.2⟩
    · cases h
  · rename_i i'
    split at h
    · rename_i hb
      obtain ⟨h1, h2⟩ := bndN_ok hb ρ
      exact ⟨by simp only [den]; rw [h2]; rfl, h1, by rw [h2]; rfl⟩
    · cases h
  · rename_i i' es' x' o' i es x o
    split at h
    · rename_i hb
      simp only [Bool.and_eq_true] at hb
      simp only [Option.some.injEq] at h
      subst h
      have hx := hp _ (List.mem_singleton.2 rfl)
      obtain ⟨h1, h2, h3⟩ := bnd_ok hb.2 ρ
      have e1 := beqN_eq hb.1.1
      have e2 := beqN_eq hb.1.2
      subst e1 e2
      refine ⟨by simp only [den]; rw [h3, hx], h1, ?_⟩
      rw [h3, hx]; exact hl.2
    · cases h
  · simp only [Option.some.injEq] at h
    subst h
    have := hp _ (List.mem_singleton.2 rfl)
    exact ⟨by simp only [den]; rw [this], trivial⟩
  · rename_i l' l
    obtain ⟨h1, h2⟩ := ckL_ok l' l ps h hp hl
    exact ⟨by simp only [den]; rw [h1], h2⟩
  · rename_i l' l
    obtain ⟨h1, h2⟩ := ckL_ok l' l ps h hp hl
    exact ⟨by simp only [den]; rw [h1], h2⟩
  · rename_i f' a' b' f a b
    split at h
    · rename_i p hpa
      split at h
      · rename_i q hqb
        simp only [Option.some.injEq] at h
        subst h
        obtain ⟨h1, h2⟩ := ckL_ok a' a p hpa (fun x hx => hp x (by simp [hx])) hl.1
        obtain ⟨h3, h4⟩ := ckL_ok b' b q hqb (fun x hx => hp x (by simp [hx])) hl.2
        have := hp _ (List.mem_cons_self)
        exact ⟨by simp only [den]; rw [h1, h3, this], h2, h4⟩
      · cases h
    · cases h
  · cases h
theorem ckL_ok {B : Bd} {ρ : Nat → Value} {n : Nat} : ∀ (l' l : List SV) (ps : List Prop), ckL B l' l = some ps → (∀ p ∈ ps, p) → ltL ρ n l → denL (ren B ρ) l' = denL ρ l ∧ ltL (ren B ρ) B.nx l'
  | [], [], _, _, _, _ => ⟨rfl, trivial⟩
  | x' :: r', x :: r, ps, h, hp, hl => by
    simp only [ckL] at h
    split at h
    · rename_i p hpa
      split at h
      · rename_i q hqb
        simp only [Option.some.injEq] at h
        subst h
        obtain ⟨h1, h2⟩ := ckSV_ok x' x p hpa (fun x hx => hp x (by simp [hx])) hl.1
        obtain ⟨h3, h4⟩ := ckL_ok r' r q hqb (fun x hx => hp x (by simp [hx])) hl.2
        exact ⟨by simp only [denL]; rw [h1, h3], h2, h4⟩
      · cases h
    · cases h
  | [], _ :: _, _, h, _, _ => by simp [ckL] at h
  | _ :: _, [], _, h, _, _ => by simp [ckL] at h
end

theorem ckSV_unk {B : Bd} (v' : SV) : ckSV B v' .unk = none := by cases v' <;> simp [ckSV]

theorem ckSV_one {B : Bd} : ∀ (v' v : SV) (ps : List Prop), ckSV B v' v = some ps → (∀ p ∈ ps, p) → oneC v = true → oneC v' = true := by
  intro v' v ps h hp ho
  unfold ckSV at h
  split at h
  all_goals first
    | rfl
    | (simp [oneC] at ho; done)
    | skip
  · simp only [Option.some.injEq] at h
    subst h
    have := hp _ (List.mem_singleton.2 rfl)
    rw [this]; exact ho
  · cases h

theorem ckL_one {B : Bd} : ∀ (l' l : List SV) (ps : List Prop), ckL B l' l = some ps → (∀ p ∈ ps, p) → (∀ x ∈ l, oneC x = true) → ∀ x ∈ l', oneC x = true
  | [], _, _, _, _, _ => by simp
  | x' :: r', x :: r, ps, h, hp, ho => by
    simp only [ckL] at h
    split at h
    · rename_i p hpa
      split at h
      · rename_i q hqb
        simp only [Option.some.injEq] at h
        subst h
        intro y hy
        rcases List.mem_cons.1 hy with rfl | hy
        · exact ckSV_one _ _ p hpa (fun z hz => hp z (by simp [hz])) (ho x (by simp))
        · exact ckL_one r' r q hqb (fun z hz => hp z (by simp [hz])) (fun z hz => ho z (by simp [hz])) y hy
      · cases h
    · cases h
  | _ :: _, [], _, h, _, _ => by simp [ckL] at h

theorem ckRegs_ok {B : Bd} {Sr : List (Nat × SV)} : ∀ (l : List (Nat × SV)) (ps : List Prop), ckRegs B Sr l = some ps → ∀ t v', look l t = some v' → (v' = .unk ∧ ∃ v, look Sr t = some v) ∨ ∃ v p, look Sr t = some v ∧ ckSV B v' v = some p ∧ ∀ x ∈ p, x ∈ ps
  | [], _, _, _, _, h => by simp [look] at h
  | (t0, v0) :: r, ps, hc, t, v', h => by
    simp only [look] at h
    by_cases hu : v0 = .unk
    · subst hu
      simp only [ckRegs] at hc
      split at hc
      · rename_i v0 hv0
        split at h
        · rename_i hb
          simp only [Option.some.injEq] at h
          rw [← beqN_eq hb]
          exact .inl ⟨h.symm, v0, hv0⟩
        · exact ckRegs_ok r ps hc t v' h
      · cases hc
    · have hc' : (match look Sr t0 with
        | some v => match ckSV B v0 v with
          | some p => match ckRegs B Sr r with
            | some q => some (p ++ q)
            | none => none
          | none => none
        | none => none) = some ps := by
        cases v0 with
        | unk => exact absurd rfl hu
        | _ => exact hc
      split at hc'
      · rename_i v hv
        split at hc'
        · rename_i p hp
          split at hc'
          · rename_i q hq
            simp only [Option.some.injEq] at hc'
            subst hc'
            split at h
            · rename_i hb
              simp only [Option.some.injEq] at h
              subst h
              rw [← beqN_eq hb]
              exact .inr ⟨v, p, hv, hp, fun x hx => by simp [hx]⟩
            · rcases ckRegs_ok r q hq t v' h with h | ⟨v2, p2, h1, h2, h3⟩
              · exact .inl h
              · exact .inr ⟨v2, p2, h1, h2, fun x hx => by simp [h3 x hx]⟩
          · cases hc'
        · cases hc'
      · cases hc'

theorem ckMem_ok {B : Bd} {Sm : List (Nat × Res)} : ∀ (l : List (Nat × Res)) (ps : List Prop), ckMem B Sm l = some ps → ∀ i x, look l i = some x → ∃ p, ckRes B Sm i x = some p ∧ ∀ y ∈ p, y ∈ ps
  | [], _, _, _, _, h => by simp [look] at h
  | (i', x') :: r, ps, hc, i, x, h => by
    simp only [ckMem] at hc
    split at hc
    · rename_i p hp
      split at hc
      · rename_i q hq
        simp only [Option.some.injEq] at hc
        subst hc
        simp only [look] at h
        split at h
        · rename_i hb
          simp only [Option.some.injEq] at h
          subst h
          rw [← beqN_eq hb]
          exact ⟨p, hp, fun y hy => by simp [hy]⟩
        · obtain ⟨p2, h1, h2⟩ := ckMem_ok r q hq i x h
          exact ⟨p2, h1, fun y hy => by simp [h2 y hy]⟩
      · cases hc
    · cases hc

theorem ckRo_ok {B : Bd} {Sm : List (Nat × Sl)} : ∀ (l : List (Nat × Sl)) (ps : List Prop), ckRo B Sm l = some ps → ∀ i x, look l i = some x → ∃ p, ckSl B Sm i x = some p ∧ ∀ y ∈ p, y ∈ ps
  | [], _, _, _, _, h => by simp [look] at h
  | (i', x') :: r, ps, hc, i, x, h => by
    simp only [ckRo] at hc
    split at hc
    · rename_i p hp
      split at hc
      · rename_i q hq
        simp only [Option.some.injEq] at hc
        subst hc
        simp only [look] at h
        split at h
        · rename_i hb
          simp only [Option.some.injEq] at h
          subst h
          rw [← beqN_eq hb]
          exact ⟨p, hp, fun y hy => by simp [hy]⟩
        · obtain ⟨p2, h1, h2⟩ := ckRo_ok r q hq i x h
          exact ⟨p2, h1, fun y hy => by simp [h2 y hy]⟩
      · cases hc
    · cases hc

theorem nodupN_ok : ∀ l : List Nat, nodupN l = true → l.Nodup
  | [], _ => List.nodup_nil
  | x :: r, h => by
    simp only [nodupN, Bool.and_eq_true, Bool.not_eq_true'] at h
    refine List.nodup_cons.2 ⟨fun hx => ?_, nodupN_ok r h.2⟩
    rw [(memN_iff r).2 hx] at h
    cases h.1

theorem imgs_mem {B : Bd} : ∀ (l : List (Nat × Res)) (i' : Nat) (x : Res) (i : Nat), look l i' = some x → x ≠ .gone → look B.s i' = some (some i) → i ∈ imgs B l
  | [], _, _, _, h, _, _ => by simp [look] at h
  | (k, y) :: r, i', x, i, h, hg, hi => by
    simp only [look] at h
    split at h
    · rename_i hb
      simp only [Option.some.injEq] at h
      subst h
      have := beqN_eq hb
      subst this
      cases y with
      | gone => exact absurd rfl hg
      | _ => simp [imgs, hi]
    · have := imgs_mem r i' x i h hg hi
      cases y with
      | gone => simpa [imgs] using this
      | _ =>
        simp only [imgs]
        split
        · simp [this]
        · exact this

theorem imgs_inj {B : Bd} : ∀ (l : List (Nat × Res)), (imgs B l).Nodup → ∀ (i' j' : Nat) (x y : Res) (i : Nat), i' ≠ j' → look l i' = some x → look l j' = some y → x ≠ .gone → y ≠ .gone →
    look B.s i' = some (some i) → look B.s j' ≠ some (some i)
  | [], _, _, _, _, _, _, _, h, _, _, _, _ => by simp [look] at h
  | (k, z) :: r, hn, i', j', x, y, i, hne, hx, hy, hgx, hgy, hi => by
    intro hj
    have hnr : (imgs B r).Nodup := by
      cases z with
      | gone => simpa [imgs] using hn
      | _ =>
        simp only [imgs] at hn
        split at hn
        · exact (List.nodup_cons.1 hn).2
        · exact hn
    have key : ∀ (a b : Nat) (u v : Res), a ≠ b → k = a → look ((k, z) :: r) a = some u → look ((k, z) :: r) b = some v → u ≠ .gone → v ≠ .gone → look B.s a = some (some i) → look B.s b = some (some i) → False := by
      intro a b u v hab hka hu hv hgu hgv ha hb
      subst hka
      simp only [look, beqN_self, Option.some.injEq] at hu
      subst hu
      simp only [look] at hv
      split at hv
      · rename_i hbb
        exact hab (beqN_eq hbb)
      · have := imgs_mem r b v i hv hgv hb
        cases z with
        | gone => exact hgu rfl
        | _ =>
          simp only [imgs, ha] at hn
          exact (List.nodup_cons.1 hn).1 this
    by_cases hk1 : k = i'
    · exact key i' j' x y hne hk1 hx hy hgx hgy hi hj
    · by_cases hk2 : k = j'
      · exact key j' i' y x (Ne.symm hne) hk2 hy hx hgy hgx hj hi
      · have e1 : look r i' = some x := by
          simp only [look] at hx
          split at hx
          · rename_i hbb; exact absurd (beqN_eq hbb) hk1
          · exact hx
        have e2 : look r j' = some y := by
          simp only [look] at hy
          split at hy
          · rename_i hbb; exact absurd (beqN_eq hbb) hk2
          · exact hy
        exact imgs_inj r hnr i' j' x y i hne e1 e2 hgx hgy hi hj

theorem slEq_rdK {w : World} {R : Nat → Prop} {s' s : Sl} {u : Value} (hk : s'.ks = s.ks) (h : SlEq s' s) (hr : RdK w R (.sl s.ks) (.ofL s.n s.f) u) : RdK w R (.sl s'.ks) (.ofL s'.n s'.f) u := by
  rw [hk]
  refine RdK_eq (.sl s.ks) _ _ u ?_ hr
  simp only [dEq, D.ofL, D.n, D.row]
  exact ⟨h.n.symm, h.row⟩

theorem subP_ok {lo : Nat} {S T : St} (h : subP lo S T) : Sub lo S T := by
  intro ρ R a w hS hlo
  unfold subP at h
  dsimp only at h
  split at h
  · exact h.out.elim
  · rename_i hc
    simp only [Bool.and_eq_true, beqN_iff, bleN_iff] at hc
    obtain ⟨⟨hnt, hnx⟩, hnd⟩ := hc
    have hB : (bdOf lo S T).nx = T.m.next ∧ (bdOf lo S T).lo = lo := ⟨rfl, rfl⟩
    generalize bdOf lo S T = B at h hB hnd
    split at h
    · rename_i p q r hp hq hr
      have hall := allP_ok _ h
      -- what an owned entry stands for
      have memo : ∀ i' x', look T.m.mem i' = some x' → i' < T.m.next ∧ ResOk (ren B ρ) R w T.m.next i' x' ∧
          (x' ≠ .gone → ∀ b, ownB (ren B ρ i') = some b → ∃ i x, look B.s i' = some (some i) ∧ look S.m.mem i = some x ∧ x ≠ .gone ∧ ownB (ρ i) = some b) := by
        intro i' x' hx'
        obtain ⟨ps, hps, hsub⟩ := ckMem_ok _ _ hq i' x' hx'
        have hps' : ∀ y ∈ ps, y := fun y hy => hall y (by simp [hsub y hy])
        unfold ckRes at hps
        split at hps
        · split at hps
          · rename_i hb
            exact ⟨by rw [← hB.1]; simpa using hb, trivial, fun hg => absurd rfl hg⟩
          · cases hps
        · rename_i l'
          split at hps
          · rename_i i hi
            split at hps
            · rename_i l hl
              split at hps
              · rename_i hb
                obtain ⟨h1, h2, h3⟩ := bnd_ok hb ρ
                obtain ⟨_, hltl, hone, b, ty, hρ, hh⟩ := hS.m.mem _ _ hl
                obtain ⟨e1, e2⟩ := ckL_ok l' l ps hps hps' hltl
                refine ⟨by rw [← hB.1]; exact h1, ⟨by rw [← hB.1]; exact e2, ckL_one l' l ps hps hps' hone, b, ty, by rw [h3]; exact hρ, by rw [e1]; exact hh⟩, fun _ b' hb' => ⟨i, _, hi, hl, by simp, by rw [← h3]; exact hb'⟩⟩
              · cases hps
            · cases hps
          · cases hps
        · rename_i ex' s'
          split at hps
          · rename_i i hi
            split at hps
            · rename_i ex s hs
              split at hps
              · rename_i hb
                simp only [Bool.and_eq_true] at hb
                simp only [Option.some.injEq] at hps
                subst hps
                have hse : SlEq s' s := hps' _ (List.mem_singleton.2 rfl)
                obtain ⟨h1, h2, h3⟩ := bnd_ok hb.1.1 ρ
                have hk := kdsEq_ok _ _ hb.1.2
                obtain ⟨_, hro⟩ := hS.m.mem _ _ hs
                refine ⟨by rw [← hB.1]; exact h1, ?_, fun _ b' hb' => ⟨i, _, hi, hs, by simp, by rw [← h3]; exact hb'⟩⟩
                rcases hro with ⟨g1, g2⟩ | ⟨b, cap, cur, ty, g1, g2, g3, g4, g5, g6, g7⟩
                · exact .inl ⟨by rw [hse.n]; exact g1, by rw [h3]; exact g2⟩
                · refine .inr ⟨b, cap, cur, ty, by rw [h3, hse.n]; exact g1, by rw [hse.n]; exact g2, fun he => ?_, g4, g5, by rw [hk]; exact g6, fun rr hrr => ?_⟩
                  · rw [hse.n]
                    refine g3 ?_
                    have := hb.2
                    rw [he] at this
                    simpa using this
                  · rw [hk]
                    rw [hse.n] at hrr
                    exact RdKs_eq _ _ _ _ 0 (hse.row rr hrr) (g7 rr hrr)
              · cases hps
            · cases hps
          · split at hps
            · rename_i hb
              simp only [Bool.and_eq_true] at hb
              simp only [Option.some.injEq] at hps
              subst hps
              have h0 : s'.n = 0 := hps' _ (List.mem_singleton.2 rfl)
              obtain ⟨h1, h2⟩ := bndN_ok hb.1 ρ
              exact ⟨by rw [← hB.1]; exact h1, .inl ⟨h0, h2⟩, fun _ b hb' => by rw [h2] at hb'; cases hb'⟩
            · cases hps
          · cases hps
      refine ⟨ren B ρ, ⟨⟨fun i' x' hx' => ⟨(memo i' x' hx').1, (memo i' x' hx').2.1⟩, fun i' x' hx' hg b hb => ?_, fun i' x' j' y' hne hx' hy' hgx hgy b hb hb' => ?_, fun i' s' hs' => ?_, hS.m.Rlt⟩, by rw [hS.size, hnt], fun t v' ht => ?_⟩, fun i hi => ?_, by omega, ?_⟩
      · obtain ⟨i, x, _, hx, hgx, hob⟩ := (memo i' x' hx').2.2 hg b hb
        exact hS.m.sep1 i x hx hgx b hob
      · obtain ⟨i, x, hi, hx, hgx2, hob⟩ := (memo i' x' hx').2.2 hgx b hb
        obtain ⟨j, y, hj, hy, hgy2, hob'⟩ := (memo j' y' hy').2.2 hgy b hb'
        by_cases hij : i = j
        · subst hij
          exact imgs_inj _ (nodupN_ok _ hnd) i' j' x' y' i hne hx' hy' hgx hgy hi hj
        · exact hS.m.sep2 i x j y hij hx hy hgx2 hgy2 b hob hob'
      · obtain ⟨ps, hps, hsub⟩ := ckRo_ok _ _ hr i' s' hs'
        have hps' : ∀ y ∈ ps, y := fun y hy => hall y (by simp [hsub y hy])
        unfold ckSl at hps
        split at hps
        · rename_i i hi
          split at hps
          · rename_i s hs
            split at hps
            · rename_i hb
              simp only [Bool.and_eq_true] at hb
              simp only [Option.some.injEq] at hps
              subst hps
              obtain ⟨h1, h2, h3⟩ := bnd_ok hb.1 ρ
              refine ⟨by rw [← hB.1]; exact h1, ?_⟩
              rw [h3]
              exact slEq_rdK (kdsEq_ok _ _ hb.2) (hps' _ (List.mem_singleton.2 rfl)) (hS.m.ro _ _ hs).2
            · cases hps
          · cases hps
        · split at hps
          · rename_i hb
            simp only [Option.some.injEq] at hps
            subst hps
            have h0 : s'.n = 0 := hps' _ (List.mem_singleton.2 rfl)
            obtain ⟨h1, h2⟩ := bndN_ok hb ρ
            refine ⟨by rw [← hB.1]; exact h1, ?_⟩
            rw [h2]
            simp only [RdK, D.ofL, D.n, D.row]
            exact ⟨none, 0, by rw [h0], by omega, by simp [maxLen], fun r hr => by omega⟩
          · cases hps
        · cases hps
      · rcases ckRegs_ok _ _ hp t v' ht with ⟨hu, v, hv⟩ | ⟨v, ps, hv, hps, hsub⟩
        · obtain ⟨u, hu', _⟩ := hS.regs t v hv
          exact ⟨u, hu', .inl hu⟩
        · obtain ⟨u, hu, hden⟩ := hS.regs t v hv
          rcases hden with hden | ⟨h1, h2⟩
          · subst hden
            rw [ckSV_unk] at hps
            cases hps
          · obtain ⟨e1, e2⟩ := ckSV_ok v' v ps hps (fun y hy => hall y (by simp [hsub y hy])) h2
            exact ⟨u, hu, .inr ⟨by rw [e1]; exact h1, by rw [← hB.1]; exact e2⟩⟩
      · unfold ren
        rw [hB.2]
        have : bltN i lo = true := by simpa using hi
        rw [this]
      · rintro b ⟨i', x', hx', hg, hb⟩
        obtain ⟨i, x, _, hx, hgx, hob⟩ := (memo i' x' hx').2.2 hg b hb
        exact ⟨i, x, hx, hgx, hob⟩
    · exact h.out.elim

/-- A loop that the executor came to: a family of states, what holds of its numbers, what falls. -/
theorem loop_vc {P : Program} {E : Env} (hE : EnvOk E P) {r : Option Nat} {lo : Nat} {n : Nat} {c : Code} {Q : Exit → St → Prop} {S : St} {σ : Type} (T : σ → St) (Inv : σ → Prop) (μ : σ → Nat) (x0 : σ) (h0 : Inv x0) (hs : subP lo S (T x0))
    (round : ∀ x, Inv x → vc P E r lo (ciN P E n) c (loopQ lo T Inv μ Q x) (T x)) : Leaf P r lo (.loop c) Q S :=
  ⟨loop_ok T Inv μ x0 h0 (subP_ok hs) fun x hx => vc_sound hE (ciN_ok hE n) c _ _ (round x hx)⟩
end SX

/-
  SX: loops with little to write: the family of states is the state at the loop, with some registers and entries of memory given anew.
-/
namespace SX
open Go

theorem SlEq.refl (s : Sl) : SlEq s s := ⟨rfl, fun r _ => rows s.ks _ 0⟩
where
  row : ∀ (k : Kd) (d : D), dEq k d d
    | .int _, _ => by simp [dEq]
    | .bool, _ => by simp [dEq]
    | .str, _ => by simp [dEq]
    | .fnc _, _ => by simp [dEq]
    | .raw _, _ => by simp [dEq]
    | .sl ks, d => by simp only [dEq, true_and]; exact fun r _ => rows ks _ 0
  rows : ∀ (ks : List Kd) (f : Nat → D) (c : Nat), dEqs ks f f c
    | [], _, _ => by simp [dEqs]
    | k :: ks, f, c => ⟨row k _, rows ks f (c + 1)⟩

theorem D.i_ofI (x : Int) : (D.ofI x).i = x := rfl
theorem D.p_ofP (x : Prop) : (D.ofP x).p = x := rfl
theorem D.n_ofL (n : Nat) (f : Nat → Nat → D) : (D.ofL n f).n = n := rfl
theorem D.row_ofL (n : Nat) (f : Nat → Nat → D) : (D.ofL n f).row = f := rfl

theorem DEq.refl (k : Kd) (d : D) : DEq k d d := ⟨SlEq.refl.row k d⟩

/-- The slots that code assigns. -/
def asg : Code → List Nat
  | .region _ ops _ => ops.toList.filterMap (·.dst)
  | .seq a b => asg a ++ asg b
  | .cond _ a b => asg a ++ asg b
  | .block _ a => asg a
  | .loop a => asg a
  | .scope a => asg a
  | .rangeFunc _ ps a b => ps.toList ++ (asg a ++ asg b)
  | _ => []

mutual
def svIds : SV → List Nat
  | .at i _ => [i]
  | .el i _ _ _ => [i]
  | .vw i _ _ _ => [i]
  | .agg l => svIdsL l
  | .tup l => svIdsL l
  | .fn _ a b => svIdsL a ++ svIdsL b
  | _ => []
def svIdsL : List SV → List Nat
  | [] => []
  | x :: r => svIds x ++ svIdsL r
end

def addN (l : List Nat) (x : Nat) : List Nat :=
  match memN x l with
  | true => l
  | false => x :: l

def addAll (l : List Nat) : List Nat → List Nat
  | [] => l
  | x :: r => addAll (addN l x) r

def reach1 (s : List Nat) : List (Nat × Res) → List Nat
  | [] => s
  | (i, .cells l) :: r => match memN i s with
    | true => reach1 (addAll s (svIdsL l)) r
    | false => reach1 s r
  | _ :: r => reach1 s r

def reach (mem : List (Nat × Res)) : Nat → List Nat → List Nat
  | 0, s => s
  | n + 1, s => reach mem n (reach1 s mem)

/-- First entries only. -/
def firsts {α : Type} (seen : List Nat) : List (Nat × α) → List (Nat × α)
  | [] => []
  | (i, x) :: r => match memN i seen with
    | true => firsts seen r
    | false => (i, x) :: firsts (i :: seen) r

def keepIds {α : Type} (lo : Nat) (s : List Nat) : List (Nat × α) → List (Nat × α)
  | [] => []
  | (i, x) :: r => match bltN i lo || memN i s with
    | true => (i, x) :: keepIds lo s r
    | false => keepIds lo s r

def regIds : List (Nat × SV) → List Nat
  | [] => []
  | (_, v) :: r => svIds v ++ regIds r

def updS (lo : Nat) (c : Code) (S : St) (k : Nat) (u : List (Nat × SV) × List (Nat × Res)) : St :=
  match firsts [] u.1 ++ firsts (asg c ++ (u.1.map (·.1))) S.regs, firsts [] (u.2 ++ S.m.mem) with
  | regs, mem => match reach mem 3 (addAll [] (regIds regs)) with
    | ids => ⟨S.nt, regs, ⟨keepIds lo ids mem, keepIds lo ids (firsts [] S.m.ro), S.m.next + k⟩⟩

/-- What holds where a round ends: K, hidden from the evaluation. -/
def endQ (K : St → Prop) (Q : Exit → St → Prop) : Exit → St → Prop
  | .normal, S => K S
  | e, S => Q e S

/-- A loop: what changes in each round, of numbers x; what holds of them; what falls. -/
theorem loopU {P : Program} {E : Env} (hE : EnvOk E P) {r : Option Nat} {lo : Nat} (n k : Nat) {c : Code} {Q : Exit → St → Prop} {S : St} {σ : Type} (U : σ → Nat → List (Nat × SV) × List (Nat × Res)) (Inv : σ → Prop) (μ : σ → Nat) (x0 : σ) (h0 : Inv x0)
    (hs : subP lo S (updS lo c S k (U x0 S.m.next)))
    (round : ∀ x, Inv x → ∀ K : St → Prop, (∀ x' S', Inv x' → μ x' < μ x → subP lo S' (updS lo c S k (U x' S.m.next)) → K S') →
      vc P E r lo (ciN P E n) c (endQ K Q) (updS lo c S k (U x S.m.next))) : Leaf P r lo (.loop c) Q S := by
  refine loop_vc hE (n := n) (fun x => updS lo c S k (U x S.m.next)) Inv μ x0 h0 hs fun x hx => ?_
  have e : loopQ lo (fun x => updS lo c S k (U x S.m.next)) Inv μ Q x = endQ (fun S' => ∃ x', Inv x' ∧ μ x' < μ x ∧ Sub lo S' (updS lo c S k (U x' S.m.next))) Q := by
    funext e S'
    cases e <;> rfl
  rw [e]
  exact round x hx _ fun x' S' h1 h2 h3 => ⟨x', h1, h2, subP_ok h3⟩

/-- What a loop's state is given anew: slots, owned things, slices that are only read. -/
structure Upd where
  regs : List (Nat × SV)
  mem : List (Nat × Res)
  ro : List (Nat × Sl)

def keepR (keep : List Nat) : List (Nat × SV) → List (Nat × SV)
  | [] => []
  | (t, v) :: r => match memN t keep with
    | true => (t, v) :: keepR keep r
    | false => keepR keep r

def updK (lo : Nat) (c : Code) (S : St) (k : Nat) (keep : List Nat) (u : Upd) : St :=
  match firsts [] u.regs ++ keepR keep (firsts (asg c ++ (u.regs.map (·.1))) S.regs), firsts [] (u.mem ++ S.m.mem) with
  | regs, mem => match reach mem 3 (addAll [] (regIds regs)) with
    | ids => ⟨S.nt, regs, ⟨keepIds lo ids mem, keepIds lo ids (firsts [] (u.ro ++ S.m.ro)), S.m.next + k⟩⟩

/-- A loop: only the slots named are kept; what is given anew may say the same in other words. -/
theorem loopK {P : Program} {E : Env} (hE : EnvOk E P) {r : Option Nat} {lo : Nat} (n k : Nat) (keep : List Nat) {c : Code} {Q : Exit → St → Prop} {S : St} {σ : Type} (U : σ → Nat → Upd) (Inv : σ → Prop) (μ : σ → Nat) (x0 : σ) (h0 : Inv x0)
    (hs : subP lo S (updK lo c S k keep (U x0 S.m.next)))
    (round : ∀ x, Inv x → ∀ K : St → Prop, (∀ x' S', Inv x' → μ x' < μ x → subP lo S' (updK lo c S k keep (U x' S.m.next)) → K S') →
      vc P E r lo (ciN P E n) c (endQ K Q) (updK lo c S k keep (U x S.m.next))) : Leaf P r lo (.loop c) Q S := by
  refine loop_vc hE (n := n) (fun x => updK lo c S k keep (U x S.m.next)) Inv μ x0 h0 hs fun x hx => ?_
  have e : loopQ lo (fun x => updK lo c S k keep (U x S.m.next)) Inv μ Q x = endQ (fun S' => ∃ x', Inv x' ∧ μ x' < μ x ∧ Sub lo S' (updK lo c S k keep (U x' S.m.next))) Q := by
    funext e S'
    cases e <;> rfl
  rw [e]
  exact round x hx _ fun x' S' h1 h2 h3 => ⟨x', h1, h2, subP_ok h3⟩

/-- Between two pieces of code: the state in other words. -/
theorem againK {P : Program} {E : Env} (hE : EnvOk E P) {r : Option Nat} {lo : Nat} (n k : Nat) (keep : List Nat) {c : Code} {Q : Exit → St → Prop} {S : St} (U : Nat → Upd) (hs : subP lo S (updK lo .skip S k keep (U S.m.next)))
    (h : vc P E r lo (ciN P E n) c Q (updK lo .skip S k keep (U S.m.next))) : SWP P r lo c Q S := by
  intro ρ R a w hS hd hl
  obtain ⟨ρ1, hS1, hag1, hl1, hown1⟩ := subP_ok hs ρ R a w hS hl
  refine wpIn_mono (vc_sound hE (ciN_ok hE n) c Q _ h ρ1 R a w hS1 hd hl1) ?_
  rintro e a' w' ⟨ρ2, R2, S2, hS2, hd2, hr2, hq⟩
  refine ⟨ρ2, R2, S2, hS2, hd2, ?_, hq⟩
  have h1 : Rel lo ρ R (Owns ρ S.m) w ρ1 R (Owns ρ1 (updK lo .skip S k keep (U S.m.next)).m) w (updK lo .skip S k keep (U S.m.next)).m.next := ⟨(Fr.refl _ _).less hown1, fun _ h => h, hag1, hl1, fun _ h => .inl h⟩
  exact h1.trans hr2 (Nat.le_refl _)
end SX

/-
  SX: environments from lists: contracts that are proved, and functions whose code is stepped through where they are called.
-/
namespace SX
open Go

structure Ctr where
  f : Nat
  sg : Sig
  pre : List (List D) → Prop
  res : List (List D) → Nat → Nat → D

/-- With the functions that make their results anew. -/
def frL (fs l : List Nat) : List Nat := fs.map freshN ++ l
def sigL (l : List (Nat × Sig)) (f : Nat) : Option Sig := look l f
def inlL (l : List (Nat × Func)) (f : Nat) : Option Func := look l f
def ctrOf : List Ctr → Nat → Option Ctr
  | [], _ => none
  | c :: r, f => if c.f = f then some c else ctrOf r f
def preOf (l : List Ctr) (f : Nat) (ds : List (List D)) : Prop := match ctrOf l f with
  | some c => c.pre ds
  | none => False
def resOf (l : List Ctr) (f : Nat) (ds : List (List D)) : Nat → Nat → D := match ctrOf l f with
  | some c => c.res ds
  | none => fun _ _ => .nil

def fnOk (P : Program) (f : Nat) (fn : Func) : Prop := P.funcs[f]? = some fn ∧ fn.body.isSome = true ∧ (fn.name == "runtime.NumGoroutine") = false

theorem inlL_ok {P : Program} : ∀ (l : List (Nat × Func)), (∀ x ∈ l, fnOk P x.1 x.2) → ∀ f fn, inlL l f = some fn → fnOk P f fn
  | [], _, _, _, h => by simp [inlL, look] at h
  | (f', fn') :: r, hl, f, fn, h => by
    simp only [inlL, look] at h
    split at h
    · rename_i hb
      have := beqN_eq hb
      subst this
      simp only [Option.some.injEq] at h
      subst h
      exact hl (f', fn') (by simp)
    · exact inlL_ok r (fun x hx => hl x (by simp [hx])) f fn h

theorem ctrOf_mem : ∀ (l : List Ctr) (f : Nat) (c : Ctr), ctrOf l f = some c → c ∈ l ∧ c.f = f
  | [], _, _, h => by simp [ctrOf] at h
  | c' :: r, f, c, h => by
    simp only [ctrOf] at h
    split at h
    · rename_i he
      simp only [Option.some.injEq] at h
      subst h
      exact ⟨by simp, he⟩
    · obtain ⟨h1, h2⟩ := ctrOf_mem r f c h
      exact ⟨by simp [h1], h2⟩

theorem ctrOf_of_look : ∀ (l : List Ctr) (f : Nat) (sg : Sig), look (l.map fun c => (c.f, c.sg)) f = some sg → ∃ c, ctrOf l f = some c ∧ c.sg = sg
  | [], _, _, h => by simp [look] at h
  | c' :: r, f, sg, h => by
    simp only [List.map_cons, look] at h
    simp only [ctrOf]
    split at h
    · rename_i hb
      simp only [Option.some.injEq] at h
      exact ⟨c', by rw [if_pos (beqN_eq hb)], h⟩
    · rename_i hb
      obtain ⟨c, h1, h2⟩ := ctrOf_of_look r f sg h
      exact ⟨c, by rw [if_neg (fun e => by subst e; simp at hb)]; exact h1, h2⟩

theorem envOk_of {P : Program} {T : Nat → Option Ty} (hT : ∀ t ty, T t = some ty → TyOk P T t ty) {cmp : Nat → Bool} (hc : ∀ t, cmp t = true → CmpOk P T t) (hm : P.follows .mixedOrders = true) (il : List (Nat × Func)) (hi : ∀ x ∈ il, fnOk P x.1 x.2) (l : List Ctr)
    (h : ∀ c ∈ l, PureFn P c.sg c.f c.pre c.res ∧ ∃ fn, fnOk P c.f fn) (hfr : ∀ c ∈ l, cmp (freshN c.f) = true → PureFnF P c.sg c.f c.pre c.res) : EnvOk ⟨Ar.std, T, sigL (l.map fun c => (c.f, c.sg)), preOf l, resOf l, inlL il, cmp⟩ P := by
  have same : ∀ f c, ctrOf l f = some c → preOf l f = c.pre ∧ resOf l f = c.res := fun f c h1 => ⟨by funext ds; simp only [preOf, h1], by funext ds; simp only [resOf, h1]⟩
  refine ⟨rfl, hT, fun f sg hs => ?_, hc, fun f sg hs hf => ?_, fun f fn hf => inlL_ok il hi f fn hf, hm⟩
  rotate_left
  · obtain ⟨c, h1, h2⟩ := ctrOf_of_look l f sg hs
    obtain ⟨h3, h4⟩ := ctrOf_mem l f c h1
    subst h4 h2
    obtain ⟨e1, e2⟩ := same _ _ h1
    show PureFnF P c.sg c.f (preOf l c.f) (resOf l c.f)
    rw [e1, e2]
    exact hfr c h3 hf
  obtain ⟨c, h1, h2⟩ := ctrOf_of_look l f sg hs
  obtain ⟨h3, h4⟩ := ctrOf_mem l f c h1
  obtain ⟨h5, h6⟩ := h c h3
  subst h4 h2
  refine ⟨?_, h6⟩
  have e1 : preOf l c.f = c.pre := by funext ds; simp only [preOf, h1]
  have e2 : resOf l c.f = c.res := by funext ds; simp only [resOf, h1]
  show PureFn P c.sg c.f (preOf l c.f) (resOf l c.f)
  rw [e1, e2]
  exact h5
end SX

/-
  SX: the law of a function that makes its results anew, from its code.
-/
namespace SX
open Go

def frS (v : SV) (l : List Nat) : Option (List Nat) :=
  match v with
  | .int _ _ => some l
  | .prop _ => some l
  | .bool _ => some l
  | .str _ => some l
  | _ => none

/-- A cell that is a number or the like, or an array that is owned and not among those seen. -/
def fr1 (m : Mm) (k : Kd) (v : SV) (l : List Nat) : Option (List Nat) :=
  match k with
  | .sl ks => match ks.all scalarK with
    | true => match v with
      | .raw (.slice none 0 0) => some l
      | .at id 0 => match look m.ro id, look m.mem id with
        | none, some (.arr _ _) => match memN id l with
          | true => none
          | false => some (id :: l)
        | _, _ => none
      | _ => none
    | false => none
  | k => match scalarK k with
    | true => frS v l
    | false => none

def frOk (m : Mm) : List Kd → List SV → List Nat → Option (List Nat)
  | [], [], l => some l
  | k :: r, v :: vs, l => match fr1 m k v l with
    | some l1 => frOk m r vs l1
    | none => none
  | _, _, _ => none

def frOkR (m : Mm) : List (Bool × List Kd) → List SV → List Nat → Option (List Nat)
  | [], [], l => some l
  | (_, ks) :: r, v :: vs, l => match frOk m ks (flat v) l with
    | some l1 => frOkR m r vs l1
    | none => none
  | _, _, _ => none

def retPF (E : Env) (fn : Func) (sg : Sig) (f : Nat → Nat → D) (S : St) : Prop :=
  match resAll E S fn.results.toList with
  | some vs => match aggOk sg.results vs, frOkR S.m sg.results vs [] with
    | true, some _ => match argsD E.A S.m sg.results vs with
      | some ds => eqRes f sg.results ds 0
      | none => StuckR fn.name S
    | _, _ => StuckR fn.name S
  | none => StuckR fn.name S

def retXF (E : Env) (fn : Func) (sg : Sig) (f : Nat → Nat → D) : Exit → St → Prop
  | .ret, S => retPF E fn sg f S
  | .normal, S => retPF E fn sg f S
  | _, S => StuckR fn.name S

def fnVCF (P : Program) (E : Env) (n : Nat) (fn : Func) (sg : Sig) (f : Nat → Nat → D) (ds : List (List D)) : Prop :=
  match fn.body with
  | some c => match resSV E.A (fun i c => (ds.getD i []).getD c .nil) sg.params 0 0 with
    | some (vs, l, nx) => match bleN vs.length fn.ntmps with
      | true => vc P E none nx (ciN P E n) c (retXF E fn sg f) ⟨fn.ntmps, enterRegs 0 vs, ⟨[], l, nx⟩⟩
      | false => False
    | none => False
  | none => False

theorem frS_ok {ρ : Nat → Value} {v : SV} {l l1 : List Nat} (h : frS v l = some l1) : l1 = l ∧ ownB (den ρ v) = none := by
  cases v <;> first | (simp only [frS, Option.some.injEq] at h; exact ⟨h.symm, by simp [den, ownB]⟩) | (simp [frS] at h)

theorem fr1_ok {ρ : Nat → Value} {m : Mm} {k : Kd} {v : SV} {l l1 : List Nat} (h : fr1 m k v l = some l1) :
    (l1 = l ∧ ownB (den ρ v) = none) ∨ ∃ id, v = .at id 0 ∧ id ∉ l ∧ l1 = id :: l ∧ den ρ v = ρ id ∧ ∃ e s, look m.ro id = none ∧ look m.mem id = some (.arr e s) := by
  unfold fr1 at h
  split at h
  · split at h
    · split at h
      · simp only [Option.some.injEq] at h
        exact .inl ⟨h.symm, rfl⟩
      · rename_i id
        split at h
        · rename_i e s hro hm
          split at h
          · cases h
          · rename_i hmem
            simp only [Option.some.injEq] at h
            exact .inr ⟨id, rfl, fun hh => (by rw [(memN_iff l).2 hh] at hmem; cases hmem), h.symm, by simp only [den]; exact shift0 _, e, s, hro, hm⟩
        · cases h
      · cases h
    · cases h
  · split at h
    · exact .inl (frS_ok h)
    · cases h

theorem frOk_ok {ρ : Nat → Value} {R : Nat → Prop} {m : Mm} {w : World} (hM : SatM ρ R m w) : ∀ (ks : List Kd) (vs : List SV) (l0 : List Nat) {l1 : List Nat}, frOk m ks vs l0 = some l1 →
    (∀ x ∈ l0, x ∈ l1) ∧ (∀ v ∈ denL ρ vs, ownB v = none ∨ ∃ i, i ∈ l1 ∧ i ∉ l0 ∧ v = ρ i ∧ ∃ e s, look m.mem i = some (.arr e s)) ∧ (denL ρ vs).Pairwise apartV
  | [], [], l0, l1, h => by
    simp only [frOk, Option.some.injEq] at h
    subst h
    exact ⟨fun _ h => h, by simp [denL], by simp [denL]⟩
  | [], _ :: _, l0, l1, h => by simp [frOk] at h
  | _ :: _, [], l0, l1, h => by simp [frOk] at h
  | k :: r, v :: vs, l0, l2, h => by
    simp only [frOk] at h
    split at h
    · rename_i l1 hl
      obtain ⟨h1, h2, h3⟩ := frOk_ok hM r vs l1 h
      rcases fr1_ok (ρ := ρ) hl with ⟨rfl, hn⟩ | ⟨i, _, hid, rfl, hv, e, s, _, hm⟩
      · refine ⟨h1, fun u hu => ?_, ?_⟩
        · simp only [denL, List.mem_cons] at hu
          rcases hu with rfl | hu
          · exact .inl hn
          · exact h2 u hu
        · simp only [denL, List.pairwise_cons]
          exact ⟨fun u _ b hb => (by rw [hn] at hb; cases hb), h3⟩
      · refine ⟨fun x hx => h1 x (by simp [hx]), fun u hu => ?_, ?_⟩
        · simp only [denL, List.mem_cons] at hu
          rcases hu with rfl | hu
          · exact .inr ⟨i, h1 i (by simp), hid, hv, e, s, hm⟩
          · rcases h2 u hu with h4 | ⟨i', a1, a2, a3, a4⟩
            · exact .inl h4
            · exact .inr ⟨i', a1, fun hh => a2 (by simp [hh]), a3, a4⟩
        · simp only [denL, List.pairwise_cons]
          refine ⟨fun u hu b hb hb' => ?_, h3⟩
          rcases h2 u hu with h4 | ⟨i', a1, a2, a3, e', s', a4⟩
          · rw [h4] at hb'; cases hb'
          · rw [hv] at hb
            rw [a3] at hb'
            exact hM.sep2 i _ i' _ (fun he => a2 (by simp [he])) hm a4 (by simp) (by simp) b hb hb'
    · cases h

theorem frOkR_ok {ρ : Nat → Value} {R : Nat → Prop} {m : Mm} {w : World} (hM : SatM ρ R m w) : ∀ (rs : List (Bool × List Kd)) (vs : List SV) (l0 : List Nat) {l1 : List Nat}, frOkR m rs vs l0 = some l1 →
    (∀ x ∈ l0, x ∈ l1) ∧ (∀ v ∈ (vs.map fun v => denL ρ (flat v)).flatten, ownB v = none ∨ ∃ id, id ∈ l1 ∧ id ∉ l0 ∧ v = ρ id ∧ ∃ e s, look m.mem id = some (.arr e s)) ∧ ((vs.map fun v => denL ρ (flat v)).flatten).Pairwise apartV
  | [], [], l0, l1, h => by
    simp only [frOkR, Option.some.injEq] at h
    subst h
    exact ⟨fun _ h => h, by simp, by simp⟩
  | [], _ :: _, l0, l1, h => by simp [frOkR] at h
  | (_, _) :: _, [], l0, l1, h => by simp [frOkR] at h
  | (g, ks) :: r, v :: vs, l0, l2, h => by
    simp only [frOkR] at h
    split at h
    · rename_i l1 hl
      obtain ⟨a1, a2, a3⟩ := frOk_ok hM ks (flat v) l0 hl
      obtain ⟨b1, b2, b3⟩ := frOkR_ok hM r vs l1 h
      simp only [List.map_cons, List.flatten_cons]
      refine ⟨fun x hx => b1 x (a1 x hx), fun u hu => ?_, ?_⟩
      · rcases List.mem_append.1 hu with hu | hu
        · rcases a2 u hu with h | ⟨id, c1, c2, c3⟩
          · exact .inl h
          · exact .inr ⟨id, b1 id c1, c2, c3⟩
        · rcases b2 u hu with h | ⟨id, c1, c2, c3⟩
          · exact .inl h
          · exact .inr ⟨id, c1, fun hh => c2 (a1 id hh), c3⟩
      · rw [List.pairwise_append]
        refine ⟨a3, b3, fun u hu u' hu' b hb hb' => ?_⟩
        rcases a2 u hu with h | ⟨id, c1, c2, c3, e, s, c4⟩
        · rw [h] at hb; cases hb
        · rcases b2 u' hu' with h | ⟨id', d1, d2, d3, e', s', d4⟩
          · rw [h] at hb'; cases hb'
          · rw [c3] at hb
            rw [d3] at hb'
            exact hM.sep2 id _ id' _ (fun he => d2 (by rw [← he]; exact c1)) c4 d4 (by simp) (by simp) b hb hb'
    · cases h

theorem rdKs_scalarF {w' : World} {R R' : Nat → Prop} : ∀ (ks : List Kd) (f : Nat → D) (g : Nat → Option Value) (c : Nat), ks.all scalarK = true → RdKs w' R ks f g c → RdKs w' R' ks f g c
  | [], _, _, _, _, _ => by simp [RdKs]
  | k :: ks, f, g, c, hs, h => by
    simp only [RdKs, List.all_cons, Bool.and_eq_true] at h hs ⊢
    obtain ⟨⟨u, hu, hk⟩, hr⟩ := h
    refine ⟨⟨u, hu, ?_⟩, rdKs_scalarF ks f g (c + 1) hs.2 hr⟩
    cases k with
    | sl ks => simp [scalarK] at hs
    | raw v => simp [scalarK] at hs
    | _ => simpa [RdK] using hk

/-- One cell that was made anew. -/
theorem frK_of {ρ : Nat → Value} {R : Nat → Prop} {m : Mm} {w : World} (hM : SatM ρ R m w) {n0 : Nat} (hnew : ∀ b, Owns ρ m b → n0 ≤ b) {A : Ar} (hA : A = Ar.std) {k : Kd} {v : SV} {d e : D} {l0 l1 : List Nat}
    (hfr : fr1 m k v l0 = some l1) {nx : Nat} (hlt : v.lt ρ nx) (hf : fits m k v = true) (hd : dOf A m v = some d) (he : dEq k d e) : FrK w n0 k e (den ρ v) := by
  have sc : scalarK k = true → RdK w (fun _ => False) k e (den ρ v) := fun hs => by
    refine RdK_eq k d e _ he (cell_rd hA (fun id s hv hs' => ?_) hlt hf hd)
    unfold slId at hv
    split at hv
    · cases k <;> simp [fits, scalarK] at hf hs
    · cases k <;> simp [fits, scalarK] at hf hs
    · cases hv
  cases k with
  | sl ks =>
    have hall : ks.all scalarK = true := by
      unfold fr1 at hfr
      split at hfr
      · rename_i ks' hk
        cases hk
        split at hfr
        · assumption
        · cases hfr
      · rename_i hk
        exact absurd rfl (hk ks)
    refine ⟨hall, ?_⟩
    simp only [dEq] at he
    rcases fr1_ok (ρ := ρ) hfr with ⟨_, hn⟩ | ⟨id, rfl, _, _, hv, ex, s, hro, hm⟩
    · -- nil
      unfold fr1 at hfr
      split at hfr
      · split at hfr
        · split at hfr
          · rw [hA] at hd
            simp only [dOf, Ar.std, Option.some.injEq] at hd
            subst hd
            exact .inl ⟨he.1.symm, rfl⟩
          · rename_i id
            split at hfr
            · rename_i ex s hro hm
              have hsl : slOf m id = some s := by simp only [slOf, hro, hm]
              have hv : den ρ (.at id 0) = ρ id := by simp only [den]; exact shift0 _
              obtain ⟨_, hres⟩ := hM.mem _ _ hm
              rw [hv] at hn ⊢
              rw [hA] at hd
              simp only [dOf, hsl, Ar.std, Option.some.injEq] at hd
              subst hd
              rcases hres with ⟨hn0, hρ⟩ | ⟨b, cap, cur, ty, hρ, _⟩
              · exact .inl ⟨by rw [← he.1]; exact hn0, hρ⟩
              · rw [hρ] at hn; cases hn
            · cases hfr
          · cases hfr
        · cases hfr
      · rename_i hk
        exact absurd rfl (hk ks)
    · have hsl : slOf m id = some s := by simp only [slOf, hro, hm]
      rw [hA] at hd
      simp only [dOf, hsl, Ar.std, Option.some.injEq] at hd
      subst hd
      simp only [fits, hsl] at hf
      have hks := kdsEq_ok _ _ hf
      obtain ⟨_, hres⟩ := hM.mem _ _ hm
      rw [hv]
      have he : s.n = e.n ∧ ∀ r, r < s.n → dEqs ks (s.f r) (e.row r) 0 := he
      rcases hres with ⟨hn, hρ⟩ | ⟨b, cap, cur, ty, hρ, h1, h2, h3, h4, h5, h6⟩
      · exact .inl ⟨by rw [← he.1]; exact hn, hρ⟩
      · refine .inr ⟨b, cap, cur, ty, hnew b ⟨id, _, hm, by simp, by rw [hρ]; rfl⟩, by rw [hρ, he.1], by rw [← he.1]; exact h1, h3, h4, by rw [hks]; exact h5, fun r hr => ?_⟩
        have hr' : r < s.n := by rw [he.1]; exact hr
        have := h6 r hr'
        rw [← hks] at this
        exact rdKs_scalarF ks _ _ 0 hall (RdKs_eq ks _ _ _ 0 (he.2 r hr') this)
  | int k => exact sc rfl
  | bool => exact sc rfl
  | str => exact sc rfl
  | fnc f => simp [fr1, scalarK] at hfr
  | raw z => simp [fr1, scalarK] at hfr

theorem frKs_of {ρ : Nat → Value} {R : Nat → Prop} {m : Mm} {w : World} (hM : SatM ρ R m w) {n0 : Nat} (hnew : ∀ b, Owns ρ m b → n0 ≤ b) {A : Ar} (hA : A = Ar.std) : ∀ (ks : List Kd) (vs : List SV) (ds : List D) (l0 : List Nat) {l1 : List Nat} (g : Nat → D) (c : Nat),
    ∀ {nx : Nat}, ltL ρ nx vs → frOk m ks vs l0 = some l1 → dList A m ks vs = some ds → eqRow ks ds g c → FrKs w n0 ks g (denL ρ vs) c
  | [], [], ds, l0, l1, g, c, _, _, _, _, _ => by simp [FrKs, denL]
  | [], _ :: _, ds, l0, l1, g, c, _, _, _, h, _ => by simp [dList] at h
  | _ :: _, [], ds, l0, l1, g, c, _, _, _, h, _ => by simp [dList] at h
  | k :: ks, v :: vs, ds, l0, l1, g, c, nx, hlt, hfr, hd, he => by
    simp only [frOk] at hfr
    split at hfr
    rotate_left
    · cases hfr
    rename_i l2 hf1
    have hf2 := hfr
    simp only [dList] at hd
    split at hd
    · rename_i hfit
      split at hd
      · rename_i d hdv
        split at hd
        · rename_i ds' hds
          simp only [Option.some.injEq] at hd
          subst hd
          simp only [eqRow] at he
          simp only [denL, FrKs]
          exact ⟨frK_of hM hnew hA hf1 hlt.1 hfit hdv he.1.out, frKs_of hM hnew hA ks vs ds' l2 g (c + 1) hlt.2 hf2 hds he.2⟩
        · cases hd
      · cases hd
    · cases hd

theorem frRes_of {ρ : Nat → Value} {R : Nat → Prop} {m : Mm} {w : World} (hM : SatM ρ R m w) {n0 : Nat} (hnew : ∀ b, Owns ρ m b → n0 ≤ b) {A : Ar} (hA : A = Ar.std) {f : Nat → Nat → D} : ∀ (rs : List (Bool × List Kd)) (vs : List SV) (ds : List (List D)) (l0 : List Nat) {l1 : List Nat} (i : Nat),
    ∀ {nx : Nat}, ltL ρ nx vs → frOkR m rs vs l0 = some l1 → argsD A m rs vs = some ds → eqRes f rs ds i → FrRes w n0 f rs i (vs.map fun v => denL ρ (flat v))
  | [], [], ds, l0, l1, i, _, _, _, _, _ => by simp [FrRes]
  | [], _ :: _, ds, l0, l1, i, _, _, _, h, _ => by simp [argsD] at h
  | (_, _) :: _, [], ds, l0, l1, i, _, _, _, h, _ => by simp [argsD] at h
  | (g, ks) :: rs, v :: vs, ds, l0, l1, i, nx, hlt, hfr, hd, he => by
    simp only [frOkR] at hfr
    split at hfr
    · rename_i l2 hf1
      simp only [argsD] at hd
      split at hd
      · rename_i d hdl
        split at hd
        · rename_i ds' hds
          simp only [Option.some.injEq] at hd
          subst hd
          simp only [eqRes] at he
          simp only [List.map_cons, FrRes]
          exact ⟨frKs_of hM hnew hA ks (flat v) d l0 (f i) 0 (den_flat (.inr ⟨rfl, hlt.1⟩)) hf1 hdl he.1, frRes_of hM hnew hA rs vs ds' l2 (i + 1) hlt.2 hfr hds he.2⟩
        · cases hd
      · cases hd
    · cases hfr

theorem shapeOf_of {ρ : Nat → Value} : ∀ (rs : List (Bool × List Kd)) (vs : List SV), aggOk rs vs = true → ShapeOf rs (vs.map fun v => denL ρ (flat v)) (denL ρ vs)
  | [], [], _ => by simp [ShapeOf, denL]
  | [], _ :: _, h => by simp [aggOk] at h
  | (g, _) :: _, [], h => by cases g <;> simp [aggOk] at h
  | (g, ks) :: rs, v :: vs, h => by
    have hrest : aggOk rs vs = true ∧ (g = true ↔ ∃ l, v = .agg l) := by
      cases g with
      | true =>
        cases v with
        | agg l => exact ⟨by simpa [aggOk] using h, by simp⟩
        | _ => simp [aggOk] at h
      | false =>
        cases v with
        | agg l => simp [aggOk] at h
        | _ => exact ⟨by simpa [aggOk] using h, by simp⟩
    simp only [List.map_cons, denL, ShapeOf]
    refine ⟨fun hg => ?_, fun hg => ?_, shapeOf_of rs vs hrest.1⟩
    · obtain ⟨l, rfl⟩ := hrest.2.1 hg
      simp [flat, den]
    · have : ∀ l, v ≠ .agg l := fun l e => by
        have := hrest.2.2 ⟨l, e⟩
        rw [hg] at this; cases this
      cases v with
      | agg l => exact absurd rfl (this l)
      | _ => simp [flat, denL]

/-- **The law of a function that makes its results anew, from its code.** -/
theorem PureFnF.of_vc {P : Program} {E : Env} (hE : EnvOk E P) (n : Nat) {f : Nat} {fn : Func} {sg : Sig} {pre : List (List D) → Prop} {res : List (List D) → Nat → Nat → D} (hf : P.funcs[f]? = some fn)
    (h : allPs sg.params fun ds => pre ds → fnVCF P E n fn sg (res ds) ds) : PureFnF P sg f pre res := by
  intro w R args ds hlt hargs hpre
  have h := allPs_ok _ _ h ds args hargs hpre
  unfold fnVCF at h
  split at h
  · rename_i c hb
    split at h
    · rename_i vs l nx hsv
      split at h
      · rename_i hle
        have hle : vs.length ≤ fn.ntmps := by simpa using hle
        have hrd : ResRd w R (fun i c => (ds.getD i []).getD c .nil) sg.params 0 args :=
          resRd_of_args _ _ _ 0 hargs (fun j _ => by simp [List.getD_eq_getElem?_getD])
        obtain ⟨ρ, hle0, hag, hltl, hus, hro⟩ := resSV_ok sg.params 0 0 (fun _ => undef) (by rw [← hE.A]; exact hsv) hrd
        have hM : SatM ρ R ⟨[], l, nx⟩ w := by
          refine ⟨fun id r h => by simp [look] at h, fun id r h => by simp [look] at h, fun id r _ _ _ h => by simp [look] at h, fun id s h => ?_, hlt⟩
          obtain ⟨⟨_, h1⟩, h2⟩ := hro id s h
          exact ⟨h1, h2⟩
        have hlen : args.length = vs.length := by rw [hus, denL_length]
        have hS : Sat ρ R ⟨fn.ntmps, enterRegs 0 vs, ⟨[], l, nx⟩⟩ { tmps := args.toArray ++ Array.replicate (fn.ntmps - args.toArray.size) undef, defers := [] } w := by
          refine ⟨hM, by simp [hlen]; omega, fun t sv h => ?_⟩
          obtain ⟨_, h1⟩ := enterRegs_look _ _ _ _ h
          rw [Nat.sub_zero] at h1
          refine ⟨den ρ sv, ?_, .inr ⟨rfl, (ltL_iff _ _ _).1 hltl _ (List.mem_of_getElem? h1)⟩⟩
          have ht : t < vs.length := (List.getElem?_eq_some_iff.1 h1).1
          rw [Array.getElem?_append_left (by simpa [hlen] using ht)]
          simp [hus, denL_get, h1]
        have hw := vc_sound (r := none) hE (ciN_ok hE n) c _ _ h ρ R _ w hS rfl (Nat.le_refl _)
        refine callsIn_wide.1 (callsIn_of_wp hf hb trivial (wpIn_mono hw ?_))
        rintro e a' w' ⟨ρ', R', S', hS', hd', hr', hq⟩
        have fin : retPF E fn sg (res ds) S' → a'.defers = [] ∧ ∃ v, (results fn a'.tmps).run P w' = .ok v w' ∧
            ∃ us css, Ending.returned v = .returned (oneVal us) ∧ Grow w w' ∧ ShapeOf sg.results css us ∧ FrRes w' w.heap.size (res ds) sg.results 0 css ∧ css.flatten.Pairwise apartV := by
          intro hq
          unfold retPF at hq
          split at hq
          · rename_i us hus'
            obtain ⟨h1, h2, h3⟩ := results_ok hE.T hS' hus'
            split at hq
            · rename_i lf hag2 hfr
              split at hq
              · rename_i ds' hds'
                have hnone : ∀ b, ¬ Owns ρ ⟨[], l, nx⟩ b := by rintro b ⟨id, x, hx, _⟩; simp [look] at hx
                have hnew : ∀ b, Owns ρ' S'.m b → w.heap.size ≤ b := fun b hb => (hr'.fr.own b hb).elim (fun h => (hnone b h).elim) id
                exact ⟨hd', _, h3, denL ρ' us, us.map fun v => denL ρ' (flat v), by rw [one_oneVal], ⟨hr'.fr.os, hr'.fr.tape, hr'.fr.output, hr'.fr.size, fun b hb => hr'.fr.keep b hb (hnone b)⟩,
                  shapeOf_of _ _ hag2, frRes_of hS'.m hnew hE.A _ us ds' [] 0 h2 hfr hds' hq, (frOkR_ok hS'.m _ us [] hfr).2.2⟩
              · exact hq.out.elim
            · exact hq.out.elim
          · exact hq.out.elim
        cases e with
        | normal => exact fin hq
        | ret => exact fin hq
        | _ => exact (StuckR.out hq).elim
      · exact h.elim
    · exact h.elim
  · exact h.elim

/-- Such results may be read. -/
theorem rdKs_of_fr {w : World} {n0 : Nat} : ∀ (ks : List Kd) (f : Nat → D) (us : List Value) (c : Nat) (g : Nat → Option Value) (R : Nat → Prop), FrKs w n0 ks f us c → (∀ j v, us[j]? = some v → g (c + j) = some v) → (∀ v ∈ us, ∀ b, ownB v = some b → R b) → RdKs w R ks f g c ∧ us.length = ks.length
  | [], f, us, c, g, R, h, _, _ => by
    cases us with
    | nil => exact ⟨by simp [RdKs], rfl⟩
    | cons u us => simp [FrKs] at h
  | k :: ks, f, [], c, g, R, h, _, _ => by simp [FrKs] at h
  | k :: ks, f, u :: us, c, g, R, h, hg, hR => by
    simp only [FrKs] at h
    obtain ⟨h1, h2⟩ := rdKs_of_fr ks f us (c + 1) g R h.2 (fun j v hv => by have := hg (j + 1) v (by simpa using hv); rw [show c + 1 + j = c + (j + 1) by omega]; exact this) (fun v hv => hR v (by simp [hv]))
    refine ⟨⟨⟨u, by have := hg 0 u (by simp); simpa using this, ?_⟩, h1⟩, by simp [h2]⟩
    have hk := h.1
    cases k with
    | sl ks' =>
      obtain ⟨hsc, ⟨hn, hu⟩ | ⟨b, cap, cur, ty, a1, hu, a2, a3, a4, a5, a6⟩⟩ := hk
      · simp only [RdK]
        exact ⟨none, 0, by rw [hu, hn], by omega, by simp [maxLen], fun r hr => by omega⟩
      · simp only [RdK]
        refine ⟨some ⟨b, 0, none⟩, cap, hu, a2, a3, fun r hr => ⟨_, rfl, hR u (by simp) b (by rw [hu]; rfl), ?_⟩⟩
        refine rdKs_scalarF _ _ _ 0 hsc (RdKs_mono (w := w) (R := fun _ => False) (fun _ _ => rfl) (fun _ h => h) _ _ _ _ 0 (fun c => ?_) (a6 r hr))
        rw [add0, cell_of_row w b _ cur ty (0, 0) a4]
    | int k => simpa [RdK, FrK] using hk
    | bool => simpa [RdK, FrK] using hk
    | str => simpa [RdK, FrK] using hk
    | fnc f => simpa [RdK, FrK] using hk
    | raw z => simp [RdK]

theorem frKs_own {w : World} {n0 : Nat} : ∀ (ks : List Kd) (f : Nat → D) (us : List Value) (c : Nat), (∀ k ∈ ks, ∀ z, k ≠ .raw z) → FrKs w n0 ks f us c → ∀ v ∈ us, ∀ b, ownB v = some b → n0 ≤ b ∧ b < w.heap.size
  | [], f, us, c, _, h, v, hv, b, hb => by cases us <;> simp_all [FrKs]
  | k :: ks, f, [], c, _, h, v, hv, b, hb => by simp at hv
  | k :: ks, f, u :: us, c, hz, h, v, hv, b, hb => by
    simp only [FrKs] at h
    rcases List.mem_cons.1 hv with rfl | hv
    · have hk := h.1
      cases k with
      | sl ks' =>
        obtain ⟨hsc, ⟨hn, hu⟩ | ⟨b', cap, cur, ty, a1, hu, a2, a3, a4, a5, a6⟩⟩ := hk
        · rw [hu] at hb; cases hb
        · rw [hu] at hb
          simp only [ownB, Option.some.injEq] at hb
          subst hb
          exact ⟨a1, (Array.getElem?_eq_some_iff.1 a4).1⟩
      | int k => simp only [FrK, RdK] at hk; rw [hk] at hb; cases hb
      | bool => simp only [FrK, RdK] at hk; rw [hk] at hb; cases hb
      | str => simp only [FrK, RdK] at hk; rw [hk] at hb; cases hb
      | fnc f => simp only [FrK, RdK] at hk; rw [hk] at hb; cases hb
      | raw z => exact absurd rfl (hz _ (by simp) z)
    · exact frKs_own ks f us (c + 1) (fun k hk => hz k (by simp [hk])) h.2 v hv b hb

def noRaw : Kd → Bool
  | .raw _ => false
  | _ => true

theorem PureFnF.pure {P : Program} {sg : Sig} {f : Nat} {pre : List (List D) → Prop} {res : List (List D) → Nat → Nat → D} (h : PureFnF P sg f pre res) (hz : (sg.results.all fun r => r.2.all noRaw) = true) : PureFn P sg f pre res := by
  intro w R args ds hlt hargs hpre
  refine (h w R args ds hlt hargs hpre).mono ?_
  rintro e w' ⟨vs, css, rfl, hg, hsh, hfr, hap⟩
  refine ⟨vs, fun b => R b ∨ (w.heap.size ≤ b ∧ b < w'.heap.size), rfl, hg, fun _ h => .inl h, fun _ h => h, ?_⟩
  generalize res ds = fr at hfr
  clear hap hargs hpre
  have key : ∀ (rs : List (Bool × List Kd)) (i : Nat) (css : List (List Value)) (vs : List Value), (rs.all fun r => r.2.all noRaw) = true → ShapeOf rs css vs → FrRes w' w.heap.size fr rs i css → ResRd w' (fun b => R b ∨ (w.heap.size ≤ b ∧ b < w'.heap.size)) fr rs i vs := by
    intro rs
    induction rs with
    | nil =>
      intro i css vs _ h1 h2
      cases css with
      | nil => cases vs with
        | nil => simp [ResRd]
        | cons _ _ => simp [ShapeOf] at h1
      | cons _ _ => simp [FrRes] at h2
    | cons x rs ih =>
      intro i css vs hz h1 h2
      obtain ⟨g, ks⟩ := x
      cases css with
      | nil => simp [FrRes] at h2
      | cons cs css => cases vs with
        | nil => simp [ShapeOf] at h1
        | cons v vs =>
          simp only [ShapeOf] at h1
          simp only [FrRes] at h2
          simp only [List.all_cons, Bool.and_eq_true] at hz
          obtain ⟨h3, h4, h5⟩ := h1
          have hz1 : ∀ k ∈ ks, ∀ z, k ≠ .raw z := fun k hk z e => by
            have := List.all_eq_true.1 hz.1 k hk
            rw [e] at this; cases this
          have hrd := rdKs_of_fr ks (fr i) cs 0 (fun c => cs[c]?) (fun b => R b ∨ (w.heap.size ≤ b ∧ b < w'.heap.size)) h2.1 (fun j v hv => by simpa using hv) (fun v hv b hb => .inr (frKs_own ks _ _ 0 hz1 h2.1 v hv b hb))
          exact ⟨⟨cs, h3, h4, hrd.2, hrd.1⟩, ih (i + 1) css vs hz.2 h5 h2.2⟩
  exact key _ 0 css vs hz hsh hfr
end SX

/-
  SX: the table of types, checked against the program.
-/
namespace SX
open Go

def zOk : Kd → Value → Bool
  | .int k, .int k' n => decide (k = k') && decide (n = 0)
  | .bool, .bool b => !b
  | .str, .string s => beqN s.size 0
  | .sl _, .slice none 0 0 => true
  | .raw (.pointer none), .pointer none => true
  | .raw .nilFunc, .nilFunc => true
  | .raw .nilIface, .nilIface => true
  | .raw (.map none), .map none => true
  | _, _ => false

def zOks : List Kd → List Value → Bool
  | [], [] => true
  | k :: ks, v :: vs => zOk k v && zOks ks vs
  | _, _ => false

def fsEq : List Field → List (Nat × Nat) → Bool
  | [], [] => true
  | f :: r, (o, t) :: s => beqN f.offset o && beqN f.type t && fsEq r s
  | _, _ => false

def kOk (ty : Ty) (d : TypeDesc) : Bool :=
  match ty.agg, ty.ks, d with
  | false, [.int k], .int k' => decide (k = k')
  | false, [.int _], _ => false
  | false, [.str], .string => true
  | false, [.str], _ => false
  | _, _, _ => true

def dOk (P : Program) (T : Nat → Option Ty) (ty : Ty) (d : TypeDesc) : Bool :=
  match ty.d with
  | .other => true
  | .slice e => match d, T e with
    | .slice e', some ety => beqN e e' && bltN 0 ety.ks.length && bltN 0 ety.bytes
    | _, _ => false
  | .arr n e => match d, T e with
    | .array n' e', some ety => beqN n n' && beqN e e' && beqN ty.ks.length (n * ety.ks.length)
    | _, _ => false
  | .struct fs => match d with
    | .struct fields => fsEq fields.toList fs && fields.toList.all fun f => (P.info? f.type).isSome
    | _ => false

def tyChk (P : Program) (T : Nat → Option Ty) (t : Nat) (ty : Ty) : Bool :=
  match P.info? t, P.underlying t with
  | some i, some d =>
    beqN i.size ty.ks.length && beqN i.bytes ty.bytes && (match i.zero with | some z => zOks ty.ks z.cells.toList | none => false) &&
      (isAggD d == ty.agg) && kOk ty d && dOk P T ty d
  | _, _ => false

theorem zOk_ok : ∀ (k : Kd) (v : Value), zOk k v = true → v = zeroV k ∧ ∀ u, k = .raw u → oneV u = true := by
  intro k v h
  unfold zOk at h
  split at h
  · simp only [Bool.and_eq_true, decide_eq_true_eq] at h
    obtain ⟨rfl, rfl⟩ := h
    exact ⟨rfl, fun u hu => by cases hu⟩
  · rename_i b
    cases b
    · exact ⟨rfl, fun u hu => by cases hu⟩
    · cases h
  · rename_i s
    have : s.size = 0 := by simpa using h
    have hs : s = ByteArray.empty := ByteArray.ext (Array.eq_empty_of_size_eq_zero this)
    exact ⟨by rw [hs]; rfl, fun u hu => by cases hu⟩
  · exact ⟨rfl, fun u hu => by cases hu⟩
  · exact ⟨rfl, fun u hu => by cases hu; rfl⟩
  · exact ⟨rfl, fun u hu => by cases hu; rfl⟩
  · exact ⟨rfl, fun u hu => by cases hu; rfl⟩
  · exact ⟨rfl, fun u hu => by cases hu; rfl⟩
  · cases h

theorem zOks_ok : ∀ (ks : List Kd) (vs : List Value), zOks ks vs = true → vs = ks.map zeroV ∧ ∀ k ∈ ks, ∀ u, k = .raw u → oneV u = true
  | [], [], _ => ⟨rfl, fun _ h => by cases h⟩
  | k :: ks, v :: vs, h => by
    simp only [zOks, Bool.and_eq_true] at h
    obtain ⟨h1, h2⟩ := zOk_ok k v h.1
    obtain ⟨h3, h4⟩ := zOks_ok ks vs h.2
    refine ⟨by rw [h1, h3, List.map_cons], fun k' hk u hu => ?_⟩
    rcases List.mem_cons.1 hk with rfl | hk
    · exact h2 u hu
    · exact h4 k' hk u hu
  | [], _ :: _, h => by simp [zOks] at h
  | _ :: _, [], h => by simp [zOks] at h

theorem fsEq_ok : ∀ (l : List Field) (fs : List (Nat × Nat)), fsEq l fs = true → l.map (fun f => (f.offset, f.type)) = fs
  | [], [], _ => rfl
  | f :: r, (o, t) :: s, h => by
    simp only [fsEq, Bool.and_eq_true, beqN_iff] at h
    rw [List.map_cons, fsEq_ok r s h.2, h.1.1, h.1.2]
  | [], _ :: _, h => by simp [fsEq] at h
  | _ :: _, [], h => by simp [fsEq] at h

theorem places_some {P : Program} : ∀ l : List Field, (l.all fun f => (P.info? f.type).isSome) = true → ∃ places, l.mapM (fun f => (P.info? f.type).map fun i => (f.offset, i.size)) = some places
  | [], _ => ⟨[], rfl⟩
  | f :: r, h => by
    simp only [List.all_cons, Bool.and_eq_true] at h
    obtain ⟨ps, hp⟩ := places_some r h.2
    obtain ⟨i, hi⟩ := Option.isSome_iff_exists.1 h.1
    exact ⟨(f.offset, i.size) :: ps, by simp [hi, hp]⟩

theorem tyChk_ok {P : Program} {T : Nat → Option Ty} {t : Nat} {ty : Ty} (h : tyChk P T t ty = true) : TyOk P T t ty := by
  unfold tyChk at h
  split at h
  · rename_i i d hi hd
    simp only [Bool.and_eq_true, beqN_iff] at h
    obtain ⟨⟨⟨⟨⟨h1, h2⟩, h3⟩, h4⟩, h5⟩, h6⟩ := h
    split at h3
    · rename_i z hz
      obtain ⟨hz1, hz2⟩ := zOks_ok _ _ h3
      replace h4 : isAggD d = ty.agg := eq_of_beq h4
      refine ⟨⟨i, z, hi, h1, h2, hz, hz1⟩, fun ha => ⟨d, hd, by rw [h4, ha]⟩, fun ha => ⟨d, hd, by rw [h4, ha]⟩, ?_, ?_, ?_, ?_, ?_, hz2⟩
      · intro k ha hk
        unfold kOk at h5
        rw [ha, hk] at h5
        rw [hd]
        cases d <;> simp_all
      · intro ha hk
        unfold kOk at h5
        rw [ha, hk] at h5
        rw [hd]
        cases d <;> simp_all
      · intro e he
        unfold dOk at h6
        rw [he] at h6
        simp only at h6
        split at h6
        · rename_i e' ety hety
          simp only [Bool.and_eq_true, beqN_iff, bltN_iff] at h6
          refine ⟨by rw [hd, h6.1.1], by rw [hety]; rfl, fun ety' h' => ?_⟩
          rw [hety] at h'
          simp only [Option.some.injEq] at h'
          subst h'
          exact ⟨h6.1.2, h6.2⟩
        · cases h6
      · intro n e he
        unfold dOk at h6
        rw [he] at h6
        simp only at h6
        split at h6
        · rename_i n' e' ety hety
          simp only [Bool.and_eq_true, beqN_iff] at h6
          refine ⟨by rw [hd, h6.1.1, h6.1.2], fun ety' h' => ?_⟩
          rw [hety] at h'
          simp only [Option.some.injEq] at h'
          subst h'
          exact h6.2
        · cases h6
      · intro fs he
        unfold dOk at h6
        rw [he] at h6
        simp only at h6
        split at h6
        · rename_i fields
          simp only [Bool.and_eq_true] at h6
          exact ⟨fields, hd, fsEq_ok _ _ h6.1, places_some _ h6.2⟩
        · cases h6
    · cases h3
  · cases h

/-- Which types are compared cell by cell: checked. -/
def cmpChk (P : Program) (T : Nat → Option Ty) (t : Nat) : Bool :=
  match T t, P.underlying t with
  | some ⟨false, _, _, _⟩, some .bool => true
  | some ⟨true, ks, _, _⟩, some (.struct fs) => !P.eqGuardType P.depth t && !P.stoodInHeld t && chkF P fs.toList ks 0
  | some ⟨true, ks, _, _⟩, some (.array n e) => !P.eqGuardType P.depth t && (P.info? e).isSome && beqN (P.cellsOf e) 1 && beqN ks.length n && ks.all fun k => scalC P k e
  | _, _ => false

theorem cmpChk_ok {P : Program} {T : Nat → Option Ty} {t : Nat} (h : cmpChk P T t = true) : CmpOk P T t := by
  intro ty hty
  unfold cmpChk at h
  rw [hty] at h
  split at h
  · rename_i h1 h2
    simp only [Option.some.injEq] at h1
    subst h1
    exact .inl ⟨rfl, h2⟩
  · rename_i h1 h2
    simp only [Option.some.injEq] at h1
    subst h1
    simp only [Bool.and_eq_true, Bool.not_eq_true'] at h
    exact .inr ⟨rfl, h.1.1, .inl ⟨_, h2, h.1.2, h.2⟩⟩
  · rename_i h1 h2
    simp only [Option.some.injEq] at h1
    subst h1
    simp only [Bool.and_eq_true, Bool.not_eq_true', beqN_iff] at h
    obtain ⟨ie, hie⟩ := Option.isSome_iff_exists.1 h.1.1.1.2
    exact .inr ⟨rfl, h.1.1.1.1, .inr ⟨_, _, ie, h2, hie, h.1.1.2, h.1.2, fun k hk => List.all_eq_true.1 h.2 k hk⟩⟩
  · cases h

def cmpL (l : List Nat) (t : Nat) : Bool := memN t l

theorem cmpL_ok {P : Program} {T : Nat → Option Ty} (l : List Nat) (h : (l.all fun t => cmpChk P T t) = true) : ∀ t, cmpL l t = true → CmpOk P T t :=
  fun t ht => cmpChk_ok (List.all_eq_true.1 h t ((memN_iff l).1 ht))

def tabChk (P : Program) (T : Nat → Option Ty) : List (Nat × Ty) → Bool
  | [] => true
  | (t, ty) :: r => tyChk P T t ty && tabChk P T r

theorem tabChk_ok {P : Program} {T : Nat → Option Ty} : ∀ l : List (Nat × Ty), tabChk P T l = true → ∀ t ty, look l t = some ty → TyOk P T t ty
  | [], _, _, _, h => by simp [look] at h
  | (t', ty') :: r, hc, t, ty, h => by
    simp only [tabChk, Bool.and_eq_true] at hc
    simp only [look] at h
    split at h
    · rename_i hb
      have := beqN_eq hb
      subst this
      simp only [Option.some.injEq] at h
      subst h
      exact tyChk_ok hc.1
    · exact tabChk_ok r hc.2 t ty h
end SX

/-
  The table of the program's types. Printed by wip/tools/mktab.sh.
-/
namespace SX
open Go Go.Proofs

def tab : List (Nat × Ty) := [
    (2, ⟨false, [.int .i64], 8, .other⟩),
    (3, ⟨false, [.int .i64], 8, .other⟩),
    (4, ⟨false, [.bool], 1, .other⟩),
    (5, ⟨false, [.int .u8], 1, .other⟩),
    (6, ⟨false, [.int .u8], 1, .other⟩),
    (7, ⟨true, [.int .i64, .int .i64, .bool, .int .u8], 24, .struct [(0, 2), (1, 3), (2, 4), (3, 6)]⟩),
    (8, ⟨true, [.int .i64, .int .i64, .bool, .int .u8], 24, .struct [(0, 2), (1, 3), (2, 4), (3, 6)]⟩),
    (9, ⟨false, [.str], 16, .other⟩),
    (10, ⟨false, [.str], 16, .other⟩),
    (11, ⟨false, [.str], 16, .other⟩),
    (12, ⟨false, [.int .u64], 8, .other⟩),
    (13, ⟨true, [.str, .int .u64], 24, .struct [(0, 9), (1, 12)]⟩),
    (14, ⟨true, [.str, .int .u64], 24, .struct [(0, 9), (1, 12)]⟩),
    (15, ⟨false, [.raw (.pointer none)], 8, .other⟩),
    (16, ⟨false, [.raw (.pointer none)], 8, .other⟩),
    (17, ⟨false, [.raw (.pointer none)], 8, .other⟩),
    (18, ⟨true, [.raw (.pointer none)], 8, .struct [(0, 17)]⟩),
    (19, ⟨true, [.raw (.pointer none)], 8, .struct [(0, 17)]⟩),
    (20, ⟨false, [.raw .nilIface], 16, .other⟩),
    (21, ⟨false, [.int .i32], 4, .other⟩),
    (22, ⟨true, [.int .i64, .int .i64, .int .i64], 24, .struct [(0, 3), (1, 3), (2, 3)]⟩),
    (23, ⟨true, [.int .i64, .int .i64, .int .i64], 24, .struct [(0, 3), (1, 3), (2, 3)]⟩),
    (24, ⟨false, [.sl [.sl [.int .i64]]], 24, .slice 25⟩),
    (25, ⟨false, [.sl [.int .i64]], 24, .slice 3⟩),
    (26, ⟨false, [.sl [.int .i64, .int .i64]], 24, .slice 65⟩),
    (27, ⟨false, [.raw .nilFunc], 8, .other⟩),
    (28, ⟨false, [.int .i64], 8, .other⟩),
    (30, ⟨false, [.raw .nilFunc], 8, .other⟩),
    (31, ⟨true, [.int .i64, .int .i64, .int .i64], 24, .struct [(0, 3), (1, 3), (2, 3)]⟩),
    (32, ⟨false, [.raw .nilFunc], 8, .other⟩),
    (33, ⟨false, [.raw .nilFunc], 8, .other⟩),
    (34, ⟨false, [.raw .nilFunc], 8, .other⟩),
    (36, ⟨false, [.raw .nilFunc], 8, .other⟩),
    (37, ⟨false, [.raw .nilFunc], 8, .other⟩),
    (38, ⟨false, [.raw .nilFunc], 8, .other⟩),
    (39, ⟨false, [.raw .nilFunc], 8, .other⟩),
    (40, ⟨false, [.raw .nilFunc], 8, .other⟩),
    (41, ⟨false, [.raw .nilFunc], 8, .other⟩),
    (42, ⟨true, [.int .i64, .int .i64], 16, .struct [(0, 3), (1, 3)]⟩),
    (43, ⟨true, [.int .i64, .int .i64], 16, .struct [(0, 3), (1, 3)]⟩),
    (44, ⟨true, [.int .i64, .int .i64], 16, .struct [(0, 3), (1, 3)]⟩),
    (45, ⟨true, [.int .i64, .int .i64], 16, .struct [(0, 3), (1, 3)]⟩),
    (46, ⟨false, [.raw .nilFunc], 8, .other⟩),
    (47, ⟨true, [.int .i64, .int .i64], 16, .struct [(0, 3), (1, 3)]⟩),
    (48, ⟨false, [.raw .nilFunc], 8, .other⟩),
    (49, ⟨false, [.raw .nilFunc], 8, .other⟩),
    (50, ⟨true, [.int .i64, .int .i64], 16, .struct [(0, 3), (1, 3)]⟩),
    (51, ⟨false, [.raw .nilFunc], 8, .other⟩),
    (52, ⟨false, [.raw .nilFunc], 8, .other⟩),
    (53, ⟨false, [.sl [.int .u8]], 24, .slice 5⟩),
    (55, ⟨false, [.raw .nilFunc], 8, .other⟩),
    (56, ⟨false, [.raw .nilFunc], 8, .other⟩),
    (57, ⟨false, [.raw .nilFunc], 8, .other⟩),
    (58, ⟨false, [.raw .nilFunc], 8, .other⟩),
    (59, ⟨false, [.raw .nilFunc], 8, .other⟩),
    (60, ⟨false, [.raw .nilFunc], 8, .other⟩),
    (61, ⟨false, [.raw .nilFunc], 8, .other⟩),
    (62, ⟨false, [.raw .nilFunc], 8, .other⟩),
    (63, ⟨false, [.raw (.map none)], 8, .other⟩),
    (64, ⟨true, [.int .i64, .int .i64], 16, .struct [(0, 3), (1, 3)]⟩),
    (65, ⟨true, [.int .i64, .int .i64], 16, .struct [(0, 3), (1, 3)]⟩),
    (66, ⟨false, [.raw .nilFunc], 8, .other⟩),
    (67, ⟨false, [.int .u16], 2, .other⟩),
    (68, ⟨false, [.sl [.int .i16]], 24, .slice 69⟩),
    (69, ⟨false, [.int .i16], 2, .other⟩),
    (70, ⟨false, [.raw .nilFunc], 8, .other⟩),
    (71, ⟨false, [.raw .nilFunc], 8, .other⟩),
    (72, ⟨false, [.sl [.int .u32, .int .u32]], 24, .slice 137⟩),
    (73, ⟨false, [.int .u32], 4, .other⟩),
    (74, ⟨false, [.raw .nilFunc], 8, .other⟩),
    (75, ⟨false, [.raw .nilFunc], 8, .other⟩),
    (76, ⟨false, [.raw .nilFunc], 8, .other⟩),
    (77, ⟨false, [.raw (.pointer none)], 8, .other⟩),
    (78, ⟨false, [.raw .nilFunc], 8, .other⟩),
    (79, ⟨false, [.raw .nilFunc], 8, .other⟩),
    (80, ⟨false, [.raw .nilFunc], 8, .other⟩),
    (81, ⟨false, [.raw .nilFunc], 8, .other⟩),
    (82, ⟨false, [.raw .nilFunc], 8, .other⟩),
    (83, ⟨false, [.raw .nilFunc], 8, .other⟩),
    (84, ⟨true, [.bool, .sl [.int .i64, .int .i64]], 32, .struct [(0, 4), (1, 26)]⟩),
    (85, ⟨true, [.bool, .sl [.int .i64, .int .i64]], 32, .struct [(0, 4), (1, 26)]⟩),
    (86, ⟨false, [.sl [.raw (.pointer none)]], 24, .slice 77⟩),
    (87, ⟨false, [.raw .nilFunc], 8, .other⟩),
    (88, ⟨false, [.raw .nilFunc], 8, .other⟩),
    (89, ⟨false, [.raw .nilFunc], 8, .other⟩),
    (90, ⟨false, [.raw .nilFunc], 8, .other⟩),
    (91, ⟨false, [.raw .nilFunc], 8, .other⟩),
    (92, ⟨false, [.raw .nilFunc], 8, .other⟩),
    (93, ⟨false, [.raw .nilFunc], 8, .other⟩),
    (94, ⟨false, [.raw .nilFunc], 8, .other⟩),
    (95, ⟨false, [.raw .nilFunc], 8, .other⟩),
    (96, ⟨false, [.raw .nilFunc], 8, .other⟩),
    (97, ⟨false, [.raw .nilFunc], 8, .other⟩),
    (98, ⟨false, [.raw (.map none)], 8, .other⟩),
    (99, ⟨false, [.raw .nilFunc], 8, .other⟩),
    (100, ⟨false, [.raw .nilFunc], 8, .other⟩),
    (101, ⟨false, [.raw .nilFunc], 8, .other⟩),
    (103, ⟨false, [.raw .nilFunc], 8, .other⟩),
    (104, ⟨false, [.raw .nilFunc], 8, .other⟩),
    (105, ⟨false, [.raw .nilFunc], 8, .other⟩),
    (106, ⟨false, [.raw .nilFunc], 8, .other⟩),
    (107, ⟨false, [.int .u64], 8, .other⟩),
    (108, ⟨false, [.raw .nilFunc], 8, .other⟩),
    (109, ⟨false, [.raw .nilFunc], 8, .other⟩),
    (110, ⟨true, [.int .i64, .int .i64], 16, .struct [(0, 3), (1, 3)]⟩),
    (111, ⟨true, [.int .i64, .int .i64], 16, .struct [(0, 3), (1, 3)]⟩),
    (112, ⟨false, [.raw .nilFunc], 8, .other⟩),
    (113, ⟨false, [.raw .nilFunc], 8, .other⟩),
    (115, ⟨false, [.raw .nilFunc], 8, .other⟩),
    (116, ⟨true, [.int .u8, .int .u8], 2, .arr 2 5⟩),
    (117, ⟨false, [.raw .nilFunc], 8, .other⟩),
    (118, ⟨false, [.raw .nilFunc], 8, .other⟩),
    (119, ⟨false, [.raw .nilFunc], 8, .other⟩),
    (120, ⟨true, [.int .i64, .int .i64], 16, .struct [(0, 3), (1, 3)]⟩),
    (121, ⟨true, [.int .i64, .int .i64], 16, .struct [(0, 3), (1, 3)]⟩),
    (122, ⟨false, [.raw .nilFunc], 8, .other⟩),
    (123, ⟨false, [.raw .nilFunc], 8, .other⟩),
    (124, ⟨false, [.raw .nilFunc], 8, .other⟩),
    (125, ⟨false, [.raw .nilFunc], 8, .other⟩),
    (126, ⟨false, [.raw (.pointer none)], 8, .other⟩),
    (127, ⟨true, [.sl [.int .u8], .int .i64, .bool], 40, .struct [(0, 53), (1, 3), (2, 4)]⟩),
    (128, ⟨true, [.sl [.int .u8], .int .i64, .bool], 40, .struct [(0, 53), (1, 3), (2, 4)]⟩),
    (129, ⟨false, [.raw .nilFunc], 8, .other⟩),
    (130, ⟨false, [.sl [.sl [.int .i64, .int .i64]]], 24, .slice 26⟩),
    (131, ⟨false, [.raw .nilFunc], 8, .other⟩),
    (132, ⟨false, [.raw .nilFunc], 8, .other⟩),
    (133, ⟨false, [.raw .nilFunc], 8, .other⟩),
    (134, ⟨false, [.raw .nilFunc], 8, .other⟩),
    (135, ⟨false, [.raw .nilFunc], 8, .other⟩),
    (136, ⟨false, [.raw .nilFunc], 8, .other⟩),
    (137, ⟨true, [.int .u32, .int .u32], 8, .arr 2 73⟩),
    (138, ⟨false, [.raw .nilFunc], 8, .other⟩),
    (139, ⟨false, [.raw .nilFunc], 8, .other⟩),
    (140, ⟨false, [.raw .nilFunc], 8, .other⟩),
    (141, ⟨false, [.raw .nilFunc], 8, .other⟩),
    (142, ⟨false, [.raw (.pointer none)], 8, .other⟩),
    (143, ⟨false, [.raw .nilFunc], 8, .other⟩),
    (144, ⟨false, [.raw .nilFunc], 8, .other⟩),
    (145, ⟨false, [.raw (.pointer none)], 8, .other⟩),
    (146, ⟨false, [.raw .nilFunc], 8, .other⟩),
    (147, ⟨false, [.raw .nilFunc], 8, .other⟩),
    (148, ⟨false, [.raw .nilFunc], 8, .other⟩),
    (149, ⟨false, [.raw .nilFunc], 8, .other⟩),
    (150, ⟨false, [.raw .nilFunc], 8, .other⟩),
    (151, ⟨false, [.raw .nilFunc], 8, .other⟩),
    (152, ⟨false, [.int .i64], 8, .other⟩),
    (154, ⟨false, [.raw .nilFunc], 8, .other⟩),
    (155, ⟨false, [.raw .nilFunc], 8, .other⟩),
    (156, ⟨false, [.raw .nilFunc], 8, .other⟩),
    (157, ⟨false, [.raw .nilFunc], 8, .other⟩),
    (158, ⟨false, [.raw .nilFunc], 8, .other⟩),
    (159, ⟨false, [.raw .nilFunc], 8, .other⟩),
    (160, ⟨false, [.int .u64], 8, .other⟩),
    (161, ⟨false, [.int .u64], 8, .other⟩),
    (162, ⟨false, [.raw .nilFunc], 8, .other⟩),
    (163, ⟨false, [.raw .nilFunc], 8, .other⟩),
    (164, ⟨false, [.raw .nilFunc], 8, .other⟩),
    (165, ⟨false, [.raw (.pointer none)], 8, .other⟩),
    (166, ⟨false, [.raw .nilFunc], 8, .other⟩),
    (167, ⟨false, [.raw (.pointer none)], 8, .other⟩),
    (168, ⟨false, [.raw .nilFunc], 8, .other⟩),
    (169, ⟨false, [.raw .nilFunc], 8, .other⟩),
    (170, ⟨true, [.raw (.pointer none), .raw (.pointer none), .raw (.pointer none), .str], 40, .struct [(0, 17), (1, 17), (2, 17), (3, 9)]⟩),
    (171, ⟨true, [.raw (.pointer none), .raw (.pointer none), .raw (.pointer none), .str], 40, .struct [(0, 17), (1, 17), (2, 17), (3, 9)]⟩),
    (172, ⟨true, [], 0, .arr 0 16⟩),
    (173, ⟨true, [], 0, .struct [(0, 172)]⟩),
    (174, ⟨true, [], 0, .struct [(0, 172)]⟩),
    (175, ⟨false, [.int .u8], 1, .other⟩),
    (176, ⟨false, [.int .u8], 1, .other⟩),
    (177, ⟨false, [.raw .nilFunc], 8, .other⟩),
    (178, ⟨false, [.raw (.pointer none)], 8, .other⟩),
    (179, ⟨false, [.int .i32], 4, .other⟩),
    (180, ⟨false, [.int .i32], 4, .other⟩),
    (181, ⟨true, [.int .u64, .int .u64, .int .u32, .int .u8, .int .u8, .int .u8, .int .u8, .raw .nilFunc, .raw (.pointer none), .int .i32, .int .i32], 48, .struct [(0, 12), (1, 12), (2, 73), (3, 175), (4, 5), (5, 5), (6, 176), (7, 177), (8, 178), (9, 179), (10, 180)]⟩),
    (182, ⟨true, [.int .u64, .int .u64, .int .u32, .int .u8, .int .u8, .int .u8, .int .u8, .raw .nilFunc, .raw (.pointer none), .int .i32, .int .i32], 48, .struct [(0, 12), (1, 12), (2, 73), (3, 175), (4, 5), (5, 5), (6, 176), (7, 177), (8, 178), (9, 179), (10, 180)]⟩),
    (183, ⟨false, [.raw (.pointer none)], 8, .other⟩)
  ]

def tabF (t : Nat) : Option Ty := look tab t

theorem tab_ok : ∀ t ty, tabF t = some ty → TyOk Try.prog tabF t ty := tabChk_ok tab (by kernel_rfl)

def cmpT : List Nat := [4, 22, 23, 31, 42, 43, 44, 45, 47, 50, 64, 65, 110, 111, 116, 120, 121, 137]

theorem cmp_ok : ∀ t, cmpL cmpT t = true → CmpOk Try.prog tabF t := cmpL_ok cmpT (by kernel_rfl)
end SX

/-
  Sense: contracts of small functions: in, within, down, events.
-/
namespace SX
open Go Go.Proofs
set_option maxRecDepth 100000

def arg (ds : List (List D)) (i c : Nat) : D := (ds.getD i []).getD c .nil
def I64 : Bool × List Kd := (false, [.int .i64])
def BOO : Bool × List Kd := (false, [.bool])
def EVS : Bool × List Kd := (false, [.sl [.int .i64, .int .i64]])
def INS : Bool × List Kd := (false, [.sl [.int .i64]])

/-- A list of contracts is in force. -/
def Has (pre : Nat → List (List D) → Prop) (fn : Nat → List (List D) → Nat → Nat → D) (l : List Ctr) : Prop := ∀ c ∈ l, pre c.f = c.pre ∧ fn c.f = c.res

def withinRes (ds : List (List D)) (_ _ : Nat) : D := .ofP ((arg ds 1 0).i ≤ (arg ds 0 0).i ∧ (arg ds 0 0).i ≤ (arg ds 2 0).i)

theorem in_pure {A sigs pre fn inl} (hE : EnvOk ⟨A, tabF, sigs, pre, fn, inl, cmpL cmpT⟩ Try.prog) : PureFn Try.prog ⟨[I64, I64, I64], [BOO]⟩ 50 (fun _ => True) withinRes := by
  have hf := Try.func50
  generalize Try.prog = P at *
  refine PureFn.of_vc hE 0 hf ?_
  intro a b c _
  have hA := hE.A
  simp only [] at hA
  generalize hR : withinRes = res
  have fin : ∀ p : Prop, (p ↔ (b.i ≤ a.i ∧ a.i ≤ c.i)) → DEq .bool (A.ofP p) (res [[a], [b], [c]] 0 0) := fun p hp => ⟨by
    subst hR hA
    simpa [dEq, withinRes, Ar.std, D.ofP, D.p, arg] using hp⟩
  cbv
  repeat' (first | (refine Br.mk (fun _ => ?_) (fun _ => ?_) <;> cbv) | refine And.intro ?_ ?_ | exact True.intro)
  all_goals (
    refine fin _ ?_
    ((try clear hK2); (try clear hK); (try clear hE); (try clear fin); subst hA; simp only [Ar.std, IntKind.min, IntKind.max, IntKind.bits, IntKind.signed, Bool.false_eq_true] at *)
    (try simp only [false_iff])
    omega)

theorem within_pure {A sigs pre fn inl} (hE : EnvOk ⟨A, tabF, sigs, pre, fn, inl, cmpL cmpT⟩ Try.prog) : PureFn Try.prog ⟨[I64, I64, I64], [BOO]⟩ 53 (fun _ => True) withinRes := by
  have hf := Try.func53
  generalize Try.prog = P at *
  refine PureFn.of_vc hE 0 hf ?_
  intro a b c _
  have hA := hE.A
  simp only [] at hA
  generalize hR : withinRes = res
  have fin : ∀ p : Prop, (p ↔ (b.i ≤ a.i ∧ a.i ≤ c.i)) → DEq .bool (A.ofP p) (res [[a], [b], [c]] 0 0) := fun p hp => ⟨by
    subst hR hA
    simpa [dEq, withinRes, Ar.std, D.ofP, D.p, arg] using hp⟩
  cbv
  repeat' (first | (refine Br.mk (fun _ => ?_) (fun _ => ?_) <;> cbv) | refine And.intro ?_ ?_ | exact True.intro)
  all_goals (
    refine fin _ ?_
    ((try clear hK2); (try clear hK); (try clear hE); (try clear fin); subst hA; simp only [Ar.std, IntKind.min, IntKind.max, IntKind.bits, IntKind.signed, Bool.false_eq_true] at *)
    (try simp only [false_iff])
    omega)

/-- Rounded down: of a divisor above 0, and not too large a dividend. -/
def downPre (ds : List (List D)) : Prop := -1000000000000 ≤ (arg ds 0 0).i ∧ (arg ds 0 0).i ≤ 1000000000000 ∧ 0 < (arg ds 1 0).i
def downRes (ds : List (List D)) (_ _ : Nat) : D := .ofI ((arg ds 0 0).i / (arg ds 1 0).i)

theorem tdiv_down (a b : Int) (hb : 0 < b) : a.tdiv b = (if a.tmod b < 0 then a / b + 1 else a / b) ∧ (0 ≤ a → 0 ≤ a / b ∧ a / b ≤ a) ∧ (a < 0 → a ≤ a / b ∧ a / b < 0) := by
  have e1 := Int.mul_tdiv_add_tmod a b
  have e2 := Int.mul_ediv_add_emod a b
  have m1 := Int.emod_nonneg a (by omega : b ≠ 0)
  have m2 := Int.emod_lt_of_pos a hb
  refine ⟨?_, fun h => ⟨Int.ediv_nonneg h (by omega), Int.ediv_le_self _ h⟩, fun h => ?_⟩
  · by_cases ha : 0 ≤ a
    · have := Int.tmod_nonneg b ha
      rw [if_neg (by omega), Int.tdiv_eq_ediv_of_nonneg ha]
    · have h1 : (-a).tdiv b = -(a.tdiv b) := Int.neg_tdiv a b
      have h2 : (-a).tmod b = -(a.tmod b) := Int.neg_tmod a b
      have t1 := Int.tmod_nonneg b (show 0 ≤ -a by omega)
      have t2 := Int.tmod_lt_of_pos (-a) hb
      split
      · have : (a.tdiv b - 1) * b ≤ a ∧ a < (a.tdiv b - 1) * b + b := by
          rw [Int.sub_mul, Int.one_mul, Int.mul_comm]
          omega
        have := Int.ediv_emod_unique hb (r := a - b * (a.tdiv b - 1)) (q := a.tdiv b - 1) (a := a)
        have := (this.2 ⟨by rw [Int.mul_comm b]; omega, by rw [Int.mul_comm b]; omega, by rw [Int.mul_comm b]; omega⟩).1
        omega
      · have h0 : a.tmod b = 0 := by omega
        have := Int.ediv_emod_unique hb (r := 0) (q := a.tdiv b) (a := a)
        exact ((this.2 ⟨by omega, by omega, hb⟩).1).symm
  · have : a / b < 0 := Int.ediv_neg_of_neg_of_pos h hb
    refine ⟨?_, this⟩
    rw [Int.le_ediv_iff_mul_le hb]
    have : a * b ≤ a * 1 := Int.mul_le_mul_of_nonpos_left (by omega) (by omega)
    omega

theorem down_pure {A sigs pre fn inl} (hE : EnvOk ⟨A, tabF, sigs, pre, fn, inl, cmpL cmpT⟩ Try.prog) : PureFn Try.prog ⟨[I64, I64], [I64]⟩ 62 downPre downRes := by
  have hf := Try.func62
  generalize Try.prog = P at *
  refine PureFn.of_vc hE 0 hf ?_
  intro a b hpre
  obtain ⟨h1, h2, h3⟩ := hpre
  simp only [arg, List.getD_cons_zero, List.getD_cons_succ] at h1 h2 h3
  have hA := hE.A
  simp only [] at hA
  generalize hR : downRes = res
  have fin : ∀ x : Int, x = a.i / b.i → DEq (.int .i64) (A.ofI x) (res [[a], [b]] 0 0) := fun x hx => ⟨by
    subst hR hA hx
    simp [dEq, downRes, Ar.std, D.ofI, D.i, arg]⟩
  have law := tdiv_down a.i b.i h3
  cbv
  repeat' (first | (refine Br.mk (fun _ => ?_) (fun _ => ?_) <;> cbv) | refine And.intro ?_ ?_ | exact True.intro)
  all_goals (try refine fin _ ?_)
  all_goals (
    ((try clear hK2); (try clear hK); (try clear hE); (try clear fin); subst hA; simp only [Ar.std, IntKind.min, IntKind.max, IntKind.bits, IntKind.signed, if_true] at *)
    obtain ⟨l1, l2, l3⟩ := law
    (first | rw [if_pos (by assumption)] at l1 | rw [if_neg (by assumption)] at l1 | skip)
    (try split at l1)
    all_goals omega)

def evEq (a b : D) : Prop := a.n = b.n ∧ ∀ r, r < a.n → (a.row r 0).i = (b.row r 0).i ∧ (a.row r 1).i = (b.row r 1).i
def eventsRes (ds : List (List D)) (_ _ : Nat) : D := .ofP (evEq (arg ds 0 0) (arg ds 1 0))

theorem events_pure {A sigs pre fn inl} (hE : EnvOk ⟨A, tabF, sigs, pre, fn, inl, cmpL cmpT⟩ Try.prog) : PureFn Try.prog ⟨[EVS, EVS], [BOO]⟩ 17 (fun _ => True) eventsRes := by
  have hf := Try.func17
  generalize Try.prog = P at *
  refine PureFn.of_vc hE 0 hf ?_
  intro a ha b hb _
  have hA := hE.A
  simp only [] at hA
  simp only [LenOk, maxLen] at ha hb
  generalize hR : eventsRes = R
  have fin : ∀ p : Prop, (p ↔ evEq a b) → DEq .bool (A.ofP p) (R [[a], [b]] 0 0) := fun p hp => ⟨by
    subst hR hA
    simpa [dEq, eventsRes, Ar.std, D.ofP, D.p, arg] using hp⟩
  cbv
  refine Br.mk (fun h => ?_) (fun h => ?_) <;> cbv
  · refine ⟨⟨fin _ ?_, trivial⟩, trivial⟩
    (subst hA; simp only [Ar.std] at h ⊢)
    simp [evEq]
    omega
  · refine loopU hE 0 0 (fun (i : Nat) _ => ([(5, .int .i64 (A.nat i))], [])) (fun i => i ≤ a.n ∧ ∀ r, r < i → (a.row r 0).i = (b.row r 0).i ∧ (a.row r 1).i = (b.row r 1).i) (fun i => a.n - i) 0 (by refine ⟨?_, ?_⟩ <;> intros <;> omega) ?_ ?_
    · cbv
      repeat' (first | (refine Br.mk (fun _ => ?_) (fun _ => ?_) <;> cbv) | refine And.intro ?_ ?_ | exact True.intro)
      all_goals first | exact Iff.rfl | exact SlEq.refl _ | rfl | (subst hA; rfl)
    · intro i hI K hK
      obtain ⟨hin, heq⟩ := hI
      cbv
      have hab : a.n = b.n := by (subst hA; simp only [Ar.std] at h ⊢); omega
      repeat' (first | (refine Br.mk (fun _ => ?_) (fun _ => ?_) <;> cbv) | refine And.intro ?_ ?_ | exact True.intro)
      all_goals (try (((try clear hK2); (try clear hK); (try clear hE); (try clear fin); subst hA; simp only [Ar.std, IntKind.min, IntKind.max, IntKind.bits, IntKind.signed, if_true, Bool.false_eq_true] at *); omega))
      · rename_i h1 h2
        refine fin _ ?_
        ((try clear hK2); (try clear hK); (try clear hE); (try clear fin); subst hA; simp only [Ar.std, IntKind.min, IntKind.max, IntKind.bits, IntKind.signed, Bool.false_eq_true] at *)
        simp only [Int.toNat_natCast] at *
        exact iff_of_false (by simp) fun h => h2 (h.2 i (by omega))
      · rename_i h1 h2
        have hi : i < a.n := by ((try clear hK2); (try clear hK); (try clear hE); (try clear fin); subst hA; simp only [Ar.std, IntKind.min, IntKind.max, IntKind.bits, IntKind.signed] at *); omega
        refine hK (i + 1) _ ⟨hi, fun r hr => ?_⟩ (by omega) ?_
        · by_cases hri : r < i
          · exact heq r hri
          · have : r = i := by omega
            ((try clear hK2); (try clear hK); (try clear hE); (try clear fin); subst hA; simp only [Ar.std, IntKind.min, IntKind.max, IntKind.bits, IntKind.signed] at *)
            simp only [Int.toNat_natCast] at *
            subst this
            exact Classical.not_not.1 h2
        · cbv
          repeat' (first | (refine Br.mk (fun _ => ?_) (fun _ => ?_) <;> cbv) | refine And.intro ?_ ?_ | exact True.intro)
          all_goals first | exact Iff.rfl | exact SlEq.refl _ | rfl | (subst hA; rfl)
      · rename_i h1
        refine fin _ ?_
        ((try clear hK2); (try clear hK); (try clear hE); (try clear fin); subst hA; simp only [Ar.std, IntKind.min, IntKind.max, IntKind.bits, IntKind.signed] at *)
        exact iff_of_true trivial ⟨hab, fun r hr => heq r (by omega)⟩
end SX

/-
  Sense: the contract of Feel.
-/
namespace SX
open Go Go.Proofs
set_option maxRecDepth 100000

/-- Rows of events. -/
def evRow (l : List (Int × Int)) (r c : Nat) : D := .ofI (match c with | 0 => (l.getD r (0, 0)).1 | _ => (l.getD r (0, 0)).2)

theorem evRow_snoc (l : List (Int × Int)) (a b : Int) : SlEq ⟨[.int .i64, .int .i64], (l ++ [(a, b)]).length, evRow (l ++ [(a, b)])⟩ ⟨[.int .i64, .int .i64], l.length + 1, fun r c => if r < l.length then evRow l r c else ([[D.ofI a, D.ofI b]].getD (r - l.length) []).getD c .nil⟩ := by
  refine ⟨by simp, fun r hr => ?_⟩
  simp only at hr
  by_cases h : r < l.length
  · refine ⟨?_, ?_, trivial⟩
    · simp [dEq, h, evRow, List.getD_eq_getElem?_getD, List.getElem?_append_left h]
    · simp [dEq, h, evRow, List.getD_eq_getElem?_getD, List.getElem?_append_left h]
  · have : r = l.length := by omega
    subst this
    refine ⟨?_, ?_, trivial⟩
    · simp [dEq, evRow, List.getD_eq_getElem?_getD, D.ofI, D.i]
    · simp [dEq, evRow, List.getD_eq_getElem?_getD, D.ofI, D.i]

/-- A whisker, tick by tick: is it bent (1: to the right, -1: to the left), and what it said. -/
def feelS (touch back : Int) (a : Nat → Int) : Nat → Int × List (Int × Int)
  | 0 => (0, [])
  | t + 1 =>
    if (feelS touch back a t).1 = 0 ∧ touch ≤ a t then (1, (feelS touch back a t).2 ++ [((t : Int), 1)])
    else if (feelS touch back a t).1 = 0 ∧ a t ≤ -touch then (-1, (feelS touch back a t).2 ++ [((t : Int), 0)])
    else if (feelS touch back a t).1 ≠ 0 ∧ (feelS touch back a t).1 * a t < touch - back then (0, (feelS touch back a t).2 ++ [((t : Int), 2)])
    else feelS touch back a t

theorem feelS_succ (touch back : Int) (a : Nat → Int) (t : Nat) : feelS touch back a (t + 1) = (if (feelS touch back a t).1 = 0 ∧ touch ≤ a t then (1, (feelS touch back a t).2 ++ [((t : Int), 1)])
    else if (feelS touch back a t).1 = 0 ∧ a t ≤ -touch then (-1, (feelS touch back a t).2 ++ [((t : Int), 0)])
    else if (feelS touch back a t).1 ≠ 0 ∧ (feelS touch back a t).1 * a t < touch - back then (0, (feelS touch back a t).2 ++ [((t : Int), 2)])
    else feelS touch back a t) := rfl

theorem feelS_rng (touch back : Int) (a : Nat → Int) : ∀ t, ((feelS touch back a t).1 = 0 ∨ (feelS touch back a t).1 = 1 ∨ (feelS touch back a t).1 = -1) ∧ (feelS touch back a t).2.length ≤ t
  | 0 => by simp [feelS]
  | t + 1 => by
    obtain ⟨h1, h2⟩ := feelS_rng touch back a t
    unfold feelS
    split
    · exact ⟨.inr (.inl rfl), by simp; omega⟩
    · split
      · exact ⟨.inr (.inr rfl), by simp; omega⟩
      · split
        · exact ⟨.inl rfl, by simp; omega⟩
        · exact ⟨h1, by omega⟩

def allIn (a : D) (lo hi : Int) : Prop := ∀ r, r < a.n → lo ≤ (a.row r 0).i ∧ (a.row r 0).i ≤ hi
def feelOk (touch back : Int) : Prop := (1 ≤ touch ∧ touch ≤ 1000) ∧ 0 ≤ back ∧ back ≤ touch
def valsOf (a : D) (r : Nat) : Int := (a.row r 0).i
open Classical in
noncomputable def feelR (touch back : Int) (a : D) : Nat → D
  | 0 => if feelOk touch back ∧ a.n ≤ 4096 ∧ allIn a (-1000) 1000 then .ofL (feelS touch back (valsOf a) a.n).2.length (evRow (feelS touch back (valsOf a) a.n).2) else .ofL 0 fun _ _ => .nil
  | _ => .ofI (if feelOk touch back then if a.n ≤ 4096 then if allIn a (-1000) 1000 then 0 else 3 else 9 else 3)
noncomputable def feelRes (ds : List (List D)) (i _ : Nat) : D := feelR (arg ds 0 0).i (arg ds 0 1).i (arg ds 1 0) i

noncomputable def cIn : Ctr := ⟨50, ⟨[I64, I64, I64], [BOO]⟩, fun _ => True, withinRes⟩
noncomputable def cWithin : Ctr := ⟨53, ⟨[I64, I64, I64], [BOO]⟩, fun _ => True, withinRes⟩
noncomputable def cEvents : Ctr := ⟨17, ⟨[EVS, EVS], [BOO]⟩, fun _ => True, eventsRes⟩
noncomputable def cDown : Ctr := ⟨62, ⟨[I64, I64], [I64]⟩, downPre, downRes⟩
noncomputable def cs1 : List Ctr := [cIn, cWithin, cEvents, cDown]
noncomputable def sg1 : List (Nat × Sig) := cs1.map fun c => (c.f, c.sg)
noncomputable def inlH : List (Nat × Func) := [(60, Try.f60), (61, Try.f61), (85, Try.f85), (86, Try.f86)]

set_option maxHeartbeats 8000000 in
theorem feel_pure {A pre fn} (hE : EnvOk ⟨A, tabF, sigL sg1, pre, fn, inlL inlH, cmpL cmpT⟩ Try.prog) (H : Has pre fn cs1) : PureFnF Try.prog ⟨[(true, [.int .i64, .int .i64]), INS], [EVS, I64]⟩ 25 (fun _ => True) feelRes := by
  have hf := Try.func25
  have h50 := H cIn (by simp [cs1])
  generalize Try.prog = P at *
  refine PureFnF.of_vc hE 3 hf ?_
  intro touch back a ha _
  have hA := hE.A
  simp only [] at hA
  simp only [LenOk, maxLen] at ha
  generalize hR : feelRes = R
  have p50 : pre 50 = fun _ => True := h50.1
  have hw : ∀ x y z : Int, A.dp (fn 50 [[A.ofI x], [A.ofI y], [A.ofI z]] 0 0) ↔ (y ≤ x ∧ x ≤ z) := fun x y z => by
    have e : fn 50 = withinRes := h50.2
    rw [e]
    subst hA
    exact Iff.rfl
  clear h50
  have f0 : ∀ n f, feelR touch.i back.i a 0 = .ofL n f → DEq (.sl [.int .i64, .int .i64]) (A.ofL n f) (R [[touch, back], [a]] 0 0) := fun n f h => by
    subst hR hA
    rw [show feelRes [[touch, back], [a]] 0 0 = _ from h]; exact DEq.refl _ _
  have f1 : ∀ x : Int, feelR touch.i back.i a 1 = .ofI x → DEq (.int .i64) (A.ofI x) (R [[touch, back], [a]] 1 0) := fun x h => by
    subst hR hA
    rw [show feelRes [[touch, back], [a]] 1 0 = _ from h]; exact DEq.refl _ _
  cbv
  repeat' (first | (refine Br.mk (fun _ => ?_) (fun _ => ?_) <;> cbv) | refine And.intro ?_ ?_ | exact True.intro)
  all_goals (try (rw [p50]; exact True.intro))
  all_goals (try (
    first
      | (refine f0 _ _ (if_neg fun h => ?_); have h1 := h.1; have h2 := h.2.1)
      | (refine f1 _ (congrArg D.ofI (if_neg fun h1 => ?_)))
    clear f0 f1
    ((try clear hK2); (try clear hK); (try clear hE); (try clear fin); subst hA; simp only [Ar.std, IntKind.min, IntKind.max, IntKind.bits, IntKind.signed] at *)
    simp only [hw, feelOk] at *
    omega))
  · rename_i h1 h2 h3
    have hok : feelOk touch.i back.i := by
      clear f0 f1
      ((try clear hK2); (try clear hK); (try clear hE); (try clear fin); subst hA; simp only [Ar.std, IntKind.min, IntKind.max, IntKind.bits, IntKind.signed] at *)
      simp only [hw, feelOk] at *
      omega
    refine f1 _ (congrArg D.ofI ((if_pos hok).trans (if_neg ?_)))
    clear f0 f1
    ((try clear hK2); (try clear hK); (try clear hE); (try clear fin); subst hA; simp only [Ar.std, IntKind.min, IntKind.max, IntKind.bits, IntKind.signed] at *)
    omega
  rename_i h1 h2 h3
  have hok : feelOk touch.i back.i := by
    clear f0 f1
    ((try clear hK2); (try clear hK); (try clear hE); (try clear fin); subst hA; simp only [Ar.std, IntKind.min, IntKind.max, IntKind.bits, IntKind.signed] at *)
    simp only [hw, feelOk] at *
    omega
  have hn : a.n ≤ 4096 := by
    clear f0 f1
    ((try clear hK2); (try clear hK); (try clear hE); (try clear fin); subst hA; simp only [Ar.std, IntKind.min, IntKind.max, IntKind.bits, IntKind.signed] at *)
    omega
  clear h1 h2 h3
  refine loopU hE 1 0 (fun (i : Nat) _ => ([(8, .int .i64 (A.nat i))], [])) (fun i => i ≤ a.n ∧ ∀ r, r < i → -1000 ≤ (a.row r 0).i ∧ (a.row r 0).i ≤ 1000) (fun i => a.n - i) 0 (by refine ⟨?_, ?_⟩ <;> intros <;> omega) ?_ ?_
  · cbv
    repeat' (first | (refine Br.mk (fun _ => ?_) (fun _ => ?_) <;> cbv) | refine And.intro ?_ ?_ | exact True.intro)
    all_goals first | exact Iff.rfl | exact SlEq.refl _ | rfl | (subst hA; rfl)
  · intro i hI K hK
    obtain ⟨hin, heq⟩ := hI
    cbv
    repeat' (first | (refine Br.mk (fun _ => ?_) (fun _ => ?_) <;> cbv) | refine And.intro ?_ ?_ | exact True.intro)
    all_goals (try (rw [p50]; exact True.intro))
    all_goals (try (clear f0 f1; ((try clear hK2); (try clear hK); (try clear hE); (try clear fin); subst hA; simp only [Ar.std, IntKind.min, IntKind.max, IntKind.bits, IntKind.signed, if_true] at *); omega))
    all_goals (try (
      first
        | (refine f0 _ _ (if_neg fun h => ?_); have h2 := h.2.2)
        | (refine f1 _ (congrArg D.ofI ((if_pos hok).trans ((if_pos hn).trans (if_neg fun h2 => ?_)))))
      clear f0 f1
      ((try clear hK2); (try clear hK); (try clear hE); (try clear fin); subst hA; simp only [Ar.std, IntKind.min, IntKind.max, IntKind.bits, IntKind.signed] at *)
      simp only [hw, Int.toNat_natCast] at *
      have := h2 i (by omega)
      omega))
    all_goals (try (exfalso; clear f0 f1; ((try clear hK2); (try clear hK); (try clear hE); (try clear fin); subst hA; simp only [Ar.std, IntKind.min, IntKind.max, IntKind.bits, IntKind.signed] at *); omega))
    · rename_i h1 h2
      have hi : i < a.n := by clear f0 f1; ((try clear hK2); (try clear hK); (try clear hE); (try clear fin); subst hA; simp only [Ar.std, IntKind.min, IntKind.max, IntKind.bits, IntKind.signed] at *); omega
      refine hK (i + 1) _ ⟨hi, fun r hr => ?_⟩ (by omega) ?_
      · by_cases hri : r < i
        · exact heq r hri
        · have : r = i := by omega
          clear f0 f1
          ((try clear hK2); (try clear hK); (try clear hE); (try clear fin); subst hA; simp only [Ar.std, IntKind.min, IntKind.max, IntKind.bits, IntKind.signed] at *)
          simp only [hw, Int.toNat_natCast] at *
          subst this
          omega
      · cbv
        repeat' (first | (refine Br.mk (fun _ => ?_) (fun _ => ?_) <;> cbv) | refine And.intro ?_ ?_ | exact True.intro)
        all_goals first | exact Iff.rfl | exact SlEq.refl _ | rfl | (subst hA; rfl)
    · rename_i h1 h2
      have hall : allIn a (-1000) 1000 := by
        clear f0 f1
        ((try clear hK2); (try clear hK); (try clear hE); (try clear fin); subst hA; simp only [Ar.std, IntKind.min, IntKind.max, IntKind.bits, IntKind.signed] at *)
        exact fun r hr => heq r (by omega)
      clear hK h1 h2 heq hin
      obtain ⟨F, hF⟩ : ∃ F, feelS touch.i back.i (valsOf a) = F := ⟨_, rfl⟩
      obtain ⟨cd, hcd⟩ : ∃ cd : Nat → Int, (fun t => if (F t).1 = -1 then 2 else (F t).1) = cd := ⟨_, rfl⟩
      obtain ⟨N, hN⟩ : ∃ N : Nat → Nat, (fun t => (F t).2.length) = N := ⟨_, rfl⟩
      obtain ⟨G, hG⟩ : ∃ G : Nat → Nat → Nat → D, (fun t => evRow (F t).2) = G := ⟨_, rfl⟩
      have N0 : N 0 = 0 := by rw [← hN, ← hF]; rfl
      have C0 : cd 0 = 0 := by rw [← hcd, ← hF]; rfl
      refine loopU hE 0 1 (fun (t : Nat) b => ([(34, .int .i64 (A.nat t)), (7, .int .i64 (cd t)), (6, .at b 0)], [(b, .arr false ⟨[.int .i64, .int .i64], N t, G t⟩)])) (fun t => t ≤ a.n) (fun t => a.n - t) 0 (Nat.zero_le _) ?_ ?_
      · cbv
        repeat' (first | (refine Br.mk (fun _ => ?_) (fun _ => ?_) <;> cbv) | refine And.intro ?_ ?_ | exact True.intro)
        all_goals first | exact Iff.rfl | exact SlEq.refl _ | rfl | (subst hA; rfl) | exact N0 | exact C0
      · intro t ht K hK
        cbv
        refine Br.mk (fun h1 => ?_) (fun h1 => ?_) <;> cbv
        · have htn : t < a.n := by (subst hA; simp only [Ar.std] at h1 ⊢); omega
          repeat' (first | (refine Br.mk (fun _ => ?_) (fun _ => ?_) <;> cbv) | refine And.intro ?_ ?_ | exact True.intro)
          all_goals (try (
            (clear f0 f1; ((try clear hK2); (try clear hK); (try clear hE); (try clear fin); subst hA; simp only [Ar.std, IntKind.min, IntKind.max, IntKind.bits, IntKind.signed, if_true] at *); all_goals (try simp only [Int.toNat_natCast] at *); all_goals (obtain ⟨r1, r2⟩ := feelS_rng touch.i back.i (valsOf a) t); all_goals (rw [hF] at r1 r2); all_goals (have hc : cd t = if (F t).1 = -1 then 2 else (F t).1 := by rw [← hcd]); all_goals (have hNt : N t = (F t).2.length := by rw [← hN]); all_goals (have u := feelS_succ touch.i back.i (valsOf a) t); all_goals (rw [hF] at u); all_goals (have hu : valsOf a t = (a.row t 0).i := rfl); all_goals (rw [hu] at u); all_goals (have hb := hall t (by omega)); all_goals (have hk := hok))
            simp only [feelOk] at hk
            omega))
          all_goals (
            first
              | (have e : F (t + 1) = (1, (F t).2 ++ [((t : Int), 1)]) := by
                  (clear f0 f1; ((try clear hK2); (try clear hK); (try clear hE); (try clear fin); subst hA; simp only [Ar.std, IntKind.min, IntKind.max, IntKind.bits, IntKind.signed] at *); all_goals (try simp only [Int.toNat_natCast] at *); all_goals (obtain ⟨r1, r2⟩ := feelS_rng touch.i back.i (valsOf a) t); all_goals (rw [hF] at r1 r2); all_goals (have hc : cd t = if (F t).1 = -1 then 2 else (F t).1 := by rw [← hcd]); all_goals (have hNt : N t = (F t).2.length := by rw [← hN]); all_goals (have u := feelS_succ touch.i back.i (valsOf a) t); all_goals (rw [hF] at u); all_goals (have hu : valsOf a t = (a.row t 0).i := rfl); all_goals (rw [hu] at u); all_goals (have hb := hall t (by omega)); all_goals (have hk := hok))
                  rcases r1 with r | r | r <;> rw [r] at u hc <;> rw [u] <;> repeat' split
                  all_goals first | rfl | (exfalso; omega)
                 refine hK (t + 1) _ htn (by omega) ?_
                 have e1 : cd (t + 1) = 1 := by rw [← hcd]; simp [e]
                 have n1 : N (t + 1) = ((F t).2 ++ [((t : Int), 1)]).length := by rw [← hN]; show (F (t + 1)).2.length = _; rw [e]
                 have g1 : G (t + 1) = evRow ((F t).2 ++ [((t : Int), 1)]) := by rw [← hG]; show evRow (F (t + 1)).2 = _; rw [e]
                 have n0 : N t = (F t).2.length := by rw [← hN]
                 have g0 : G t = evRow (F t).2 := by rw [← hG]
                 have e2 : SlEq ⟨[.int .i64, .int .i64], N (t + 1), G (t + 1)⟩ ⟨[.int .i64, .int .i64], A.nadd (N t) 1, A.app (N t) (G t) (A.tab [[A.ofI (A.nat t), A.ofI 1]])⟩ := by
                   rw [n1, g1, n0, g0]
                   clear hE
                   subst hA
                   exact evRow_snoc _ _ _
                 cbv
                 repeat' (first | (refine Br.mk (fun _ => ?_) (fun _ => ?_) <;> cbv) | refine And.intro ?_ ?_ | exact True.intro)
                 all_goals first | exact Iff.rfl | exact SlEq.refl _ | rfl | (subst hA; rfl) | exact e1 | exact e2)
              | (have e : F (t + 1) = (-1, (F t).2 ++ [((t : Int), 0)]) := by
                  (clear f0 f1; ((try clear hK2); (try clear hK); (try clear hE); (try clear fin); subst hA; simp only [Ar.std, IntKind.min, IntKind.max, IntKind.bits, IntKind.signed] at *); all_goals (try simp only [Int.toNat_natCast] at *); all_goals (obtain ⟨r1, r2⟩ := feelS_rng touch.i back.i (valsOf a) t); all_goals (rw [hF] at r1 r2); all_goals (have hc : cd t = if (F t).1 = -1 then 2 else (F t).1 := by rw [← hcd]); all_goals (have hNt : N t = (F t).2.length := by rw [← hN]); all_goals (have u := feelS_succ touch.i back.i (valsOf a) t); all_goals (rw [hF] at u); all_goals (have hu : valsOf a t = (a.row t 0).i := rfl); all_goals (rw [hu] at u); all_goals (have hb := hall t (by omega)); all_goals (have hk := hok))
                  rcases r1 with r | r | r <;> rw [r] at u hc <;> rw [u] <;> repeat' split
                  all_goals first | rfl | (exfalso; omega)
                 refine hK (t + 1) _ htn (by omega) ?_
                 have e1 : cd (t + 1) = 2 := by rw [← hcd]; simp [e]
                 have n1 : N (t + 1) = ((F t).2 ++ [((t : Int), 0)]).length := by rw [← hN]; show (F (t + 1)).2.length = _; rw [e]
                 have g1 : G (t + 1) = evRow ((F t).2 ++ [((t : Int), 0)]) := by rw [← hG]; show evRow (F (t + 1)).2 = _; rw [e]
                 have n0 : N t = (F t).2.length := by rw [← hN]
                 have g0 : G t = evRow (F t).2 := by rw [← hG]
                 have e2 : SlEq ⟨[.int .i64, .int .i64], N (t + 1), G (t + 1)⟩ ⟨[.int .i64, .int .i64], A.nadd (N t) 1, A.app (N t) (G t) (A.tab [[A.ofI (A.nat t), A.ofI 0]])⟩ := by
                   rw [n1, g1, n0, g0]
                   clear hE
                   subst hA
                   exact evRow_snoc _ _ _
                 cbv
                 repeat' (first | (refine Br.mk (fun _ => ?_) (fun _ => ?_) <;> cbv) | refine And.intro ?_ ?_ | exact True.intro)
                 all_goals first | exact Iff.rfl | exact SlEq.refl _ | rfl | (subst hA; rfl) | exact e1 | exact e2)
              | (have e : F (t + 1) = (0, (F t).2 ++ [((t : Int), 2)]) := by
                  (clear f0 f1; ((try clear hK2); (try clear hK); (try clear hE); (try clear fin); subst hA; simp only [Ar.std, IntKind.min, IntKind.max, IntKind.bits, IntKind.signed] at *); all_goals (try simp only [Int.toNat_natCast] at *); all_goals (obtain ⟨r1, r2⟩ := feelS_rng touch.i back.i (valsOf a) t); all_goals (rw [hF] at r1 r2); all_goals (have hc : cd t = if (F t).1 = -1 then 2 else (F t).1 := by rw [← hcd]); all_goals (have hNt : N t = (F t).2.length := by rw [← hN]); all_goals (have u := feelS_succ touch.i back.i (valsOf a) t); all_goals (rw [hF] at u); all_goals (have hu : valsOf a t = (a.row t 0).i := rfl); all_goals (rw [hu] at u); all_goals (have hb := hall t (by omega)); all_goals (have hk := hok))
                  rcases r1 with r | r | r <;> rw [r] at u hc <;> rw [u] <;> repeat' split
                  all_goals first | rfl | (exfalso; omega)
                 refine hK (t + 1) _ htn (by omega) ?_
                 have e1 : cd (t + 1) = 0 := by rw [← hcd]; simp [e]
                 have n1 : N (t + 1) = ((F t).2 ++ [((t : Int), 2)]).length := by rw [← hN]; show (F (t + 1)).2.length = _; rw [e]
                 have g1 : G (t + 1) = evRow ((F t).2 ++ [((t : Int), 2)]) := by rw [← hG]; show evRow (F (t + 1)).2 = _; rw [e]
                 have n0 : N t = (F t).2.length := by rw [← hN]
                 have g0 : G t = evRow (F t).2 := by rw [← hG]
                 have e2 : SlEq ⟨[.int .i64, .int .i64], N (t + 1), G (t + 1)⟩ ⟨[.int .i64, .int .i64], A.nadd (N t) 1, A.app (N t) (G t) (A.tab [[A.ofI (A.nat t), A.ofI 2]])⟩ := by
                   rw [n1, g1, n0, g0]
                   clear hE
                   subst hA
                   exact evRow_snoc _ _ _
                 cbv
                 repeat' (first | (refine Br.mk (fun _ => ?_) (fun _ => ?_) <;> cbv) | refine And.intro ?_ ?_ | exact True.intro)
                 all_goals first | exact Iff.rfl | exact SlEq.refl _ | rfl | (subst hA; rfl) | exact e1 | exact e2)
              | (have e : F (t + 1) = F t := by
                  (clear f0 f1; ((try clear hK2); (try clear hK); (try clear hE); (try clear fin); subst hA; simp only [Ar.std, IntKind.min, IntKind.max, IntKind.bits, IntKind.signed] at *); all_goals (try simp only [Int.toNat_natCast] at *); all_goals (obtain ⟨r1, r2⟩ := feelS_rng touch.i back.i (valsOf a) t); all_goals (rw [hF] at r1 r2); all_goals (have hc : cd t = if (F t).1 = -1 then 2 else (F t).1 := by rw [← hcd]); all_goals (have hNt : N t = (F t).2.length := by rw [← hN]); all_goals (have u := feelS_succ touch.i back.i (valsOf a) t); all_goals (rw [hF] at u); all_goals (have hu : valsOf a t = (a.row t 0).i := rfl); all_goals (rw [hu] at u); all_goals (have hb := hall t (by omega)); all_goals (have hk := hok))
                  rcases r1 with r | r | r <;> rw [r] at u hc <;> rw [u] <;> repeat' split
                  all_goals first | rfl | (exfalso; omega)
                 refine hK (t + 1) _ htn (by omega) ?_
                 have e1 : cd (t + 1) = cd t := by rw [← hcd]; simp [e]
                 have n1 : N (t + 1) = N t := by rw [← hN]; show (F (t + 1)).2.length = _; rw [e]
                 have g1 : G (t + 1) = G t := by rw [← hG]; show evRow (F (t + 1)).2 = _; rw [e]
                 have e2 : SlEq ⟨[.int .i64, .int .i64], N (t + 1), G (t + 1)⟩ ⟨[.int .i64, .int .i64], N t, G t⟩ := by
                   rw [n1, g1]
                   exact SlEq.refl _
                 cbv
                 repeat' (first | (refine Br.mk (fun _ => ?_) (fun _ => ?_) <;> cbv) | refine And.intro ?_ ?_ | exact True.intro)
                 all_goals first | exact Iff.rfl | exact SlEq.refl _ | rfl | (subst hA; rfl) | exact e1 | exact e2))
        · have e : t = a.n := by (subst hA; simp only [Ar.std] at h1 ⊢); omega
          subst e
          refine ⟨⟨f0 _ _ ?_, trivial⟩, ⟨f1 _ ?_, trivial⟩, trivial⟩
          · refine (if_pos ⟨hok, hn, hall⟩).trans ?_
            rw [hF, ← hN, ← hG]
          · exact congrArg D.ofI ((if_pos hok).trans ((if_pos hn).trans (if_pos hall)))
end SX

/-
  Sense: what an ear says, in plain Lean.
-/
namespace SX
open Go Go.Proofs

/-- The parts of an ear. -/
def zv (s : Nat → Int) : Nat → Nat → Int
  | 0, _ => 0
  | t + 1, k => zv s t k + (256 * s t - zv s t k) / 2 ^ (k + 1)
def nowv (s : Nat → Int) (t k : Nat) : Int := (zv s (t + 1) k - zv s (t + 1) (k + 1)) / 256
def wasv (s : Nat → Int) : Nat → Nat → Int
  | 0, _ => 0
  | t + 1, k => nowv s t k
/-- The events of the first channels in a tick. -/
def evs (step : Int) (s : Nat → Int) (t : Nat) : Nat → List (Int × Int)
  | 0 => []
  | k + 1 => evs step s t k ++ (if nowv s t k ≤ -step ∧ -step < wasv s t k then [((t : Int), 2 * (k : Int))] else if step ≤ nowv s t k ∧ wasv s t k < step then [((t : Int), 2 * (k : Int) + 1)] else [])
def hearS (ch : Nat) (step : Int) (s : Nat → Int) : Nat → List (Int × Int)
  | 0 => []
  | t + 1 => hearS ch step s t ++ evs step s t ch

theorem evs_len (step : Int) (s : Nat → Int) (t : Nat) : ∀ k, (evs step s t k).length ≤ k
  | 0 => by simp [evs]
  | k + 1 => by
    have := evs_len step s t k
    unfold evs
    rw [List.length_append]
    split
    · simp; omega
    · split
      · simp; omega
      · simp; omega
theorem hearS_len (ch : Nat) (step : Int) (s : Nat → Int) : ∀ t, (hearS ch step s t).length ≤ t * ch
  | 0 => by simp [hearS]
  | t + 1 => by
    have h1 := hearS_len ch step s t
    have h2 := evs_len step s t ch
    unfold hearS
    rw [List.length_append, Nat.add_mul, Nat.one_mul]
    omega

theorem z_step (z S p : Int) (hz : -8388352 ≤ z ∧ z ≤ 8388352) (hS : -8388352 ≤ S ∧ S ≤ 8388352) (hp : 1 ≤ p) : (-8388352 ≤ z + (S - z) / p ∧ z + (S - z) / p ≤ 8388352) ∧ -16776704 ≤ (S - z) / p ∧ (S - z) / p ≤ 16776704 := by
  by_cases h : z ≤ S
  · have h1 : 0 ≤ (S - z) / p := Int.ediv_nonneg (by omega) (by omega)
    have h2 : (S - z) / p ≤ S - z := Int.ediv_le_self _ (by omega)
    omega
  · have h1 : (S - z) / p < 0 := Int.ediv_neg_of_neg_of_pos (by omega) (by omega)
    have h2 : S - z ≤ (S - z) / p := by
      rw [Int.le_ediv_iff_mul_le (by omega)]
      have : (S - z) * p ≤ (S - z) * 1 := Int.mul_le_mul_of_nonpos_left (by omega) (by omega)
      omega
    omega

theorem two_pow_pos (k : Nat) : (1 : Int) ≤ 2 ^ k := by
  have : (0 : Int) < 2 ^ k := Int.pow_pos (by omega)
  omega

theorem zv_rng {s : Nat → Int} {n : Nat} (hs : ∀ r, r < n → -32767 ≤ s r ∧ s r ≤ 32767) : ∀ t, t ≤ n → ∀ k, -8388352 ≤ zv s t k ∧ zv s t k ≤ 8388352
  | 0, _, k => by simp [zv]
  | t + 1, ht, k => by
    have h1 := zv_rng hs t (by omega) k
    have h2 := hs t (by omega)
    exact (z_step (zv s t k) (256 * s t) (2 ^ (k + 1)) h1 (by omega) (two_pow_pos _)).1

theorem now_rng {s : Nat → Int} {n : Nat} (hs : ∀ r, r < n → -32767 ≤ s r ∧ s r ≤ 32767) {t : Nat} (ht : t < n) (k : Nat) : -16776704 ≤ nowv s t k ∧ nowv s t k ≤ 16776704 := by
  have h1 := zv_rng hs (t + 1) ht k
  have h2 := zv_rng hs (t + 1) ht (k + 1)
  unfold nowv
  omega

theorem was_rng {s : Nat → Int} {n : Nat} (hs : ∀ r, r < n → -32767 ≤ s r ∧ s r ≤ 32767) : ∀ {t : Nat}, t ≤ n → ∀ k, -16776704 ≤ wasv s t k ∧ wasv s t k ≤ 16776704
  | 0, _, k => by simp [wasv]
  | t + 1, ht, k => now_rng hs (show t < n by omega) k

/-- Arrays in the middle of a tick. -/
def zArr (s : Nat → Int) (t k r _c : Nat) : D := .ofI (if r < k then zv s (t + 1) r else zv s t r)
def wArr (s : Nat → Int) (t k r _c : Nat) : D := .ofI (if r < k then nowv s t r else wasv s t r)

def hearOk (ch step : Int) : Prop := (1 ≤ ch ∧ ch ≤ 16) ∧ 1 ≤ step ∧ step ≤ 32767
open Classical in
noncomputable def hearR (ch step : Int) (a : D) : Nat → D
  | 0 => if hearOk ch step ∧ a.n ≤ 4096 ∧ allIn a (-32767) 32767 ∧ (hearS ch.toNat step (valsOf a) a.n).length ≤ 65536 then .ofL (hearS ch.toNat step (valsOf a) a.n).length (evRow (hearS ch.toNat step (valsOf a) a.n)) else .ofL 0 fun _ _ => .nil
  | _ => .ofI (if hearOk ch step then if a.n ≤ 4096 then if allIn a (-32767) 32767 then if (hearS ch.toNat step (valsOf a) a.n).length ≤ 65536 then 0 else 9 else 3 else 9 else 3)
noncomputable def hearRes (ds : List (List D)) (i _ : Nat) : D := hearR (arg ds 0 0).i (arg ds 0 1).i (arg ds 1 0) i

theorem shl8 (x : Int) (h : -32767 ≤ x ∧ x ≤ 32767) : IntKind.wrap .i64 (x * 2 ^ Nat.min (Int.toNat 8) 64) = 256 * x := by
  have e : (2 : Int) ^ Nat.min (Int.toNat 8) 64 = 256 := by decide
  rw [e, wrap_of_inR]
  · omega
  · simp only [IntKind.min, IntKind.bits, IntKind.signed, if_true]; omega
  · simp only [IntKind.max, IntKind.bits, IntKind.signed, if_true]; omega
theorem shrk (z : Int) (k : Nat) (h : k ≤ 16) : z.fdiv (2 ^ Nat.min ((k : Int) + 1).toNat 64) = z / 2 ^ (k + 1) := by
  have e : Nat.min ((k : Int) + 1).toNat 64 = k + 1 := by
    rw [show ((k : Int) + 1).toNat = k + 1 by omega]
    exact Nat.min_eq_left (by omega)
  rw [e, Int.fdiv_eq_ediv_of_nonneg _ (by have := two_pow_pos (k + 1); omega)]
theorem shr8 (z : Int) : z.fdiv (2 ^ Nat.min (Int.toNat 8) 64) = z / 256 := by
  have e : (2 : Int) ^ Nat.min (Int.toNat 8) 64 = 256 := by decide
  rw [e, Int.fdiv_eq_ediv_of_nonneg _ (by omega)]

theorem toNat_succ (k : Nat) : ((k : Int) + 1).toNat = k + 1 := by omega

/-- One cell of an array is written. -/
theorem SlEq.set1 {n k : Nat} {g g' : Nat → Nat → D} {v : Int} (h1 : (g' k 0).i = v) (h2 : ∀ r, r < n → r ≠ k → (g' r 0).i = (g r 0).i) : SlEq ⟨[.int .i64], n, g'⟩ ⟨[.int .i64], n, fun r c => if r = k ∧ 0 ≤ c ∧ c < 0 + [D.ofI v].length then [D.ofI v].getD (c - 0) .nil else g r c⟩ := by
  refine ⟨rfl, fun r hr => ⟨?_, trivial⟩⟩
  simp only [dEq]
  by_cases hk : r = k
  · subst hk
    rw [h1]
    simp [D.i_ofI]
  · rw [h2 r hr hk]
    simp [hk]
theorem evs_succ (step : Int) (s : Nat → Int) (t k : Nat) : evs step s t (k + 1) = evs step s t k ++ (if nowv s t k ≤ -step ∧ -step < wasv s t k then [((t : Int), 2 * (k : Int))] else if step ≤ nowv s t k ∧ wasv s t k < step then [((t : Int), 2 * (k : Int) + 1)] else []) := rfl
end SX

/-
  SenseCauses: what comes later changes nothing; what is quiet is not heard: in plain Lean.
-/
namespace SX
open Go Go.Proofs

/-- The events before a tick. -/
def bef (k : Nat) (l : List (Int × Int)) : List (Int × Int) := l.filter fun x => decide (x.1 < (k : Int))

theorem bef_append (k : Nat) (l m : List (Int × Int)) : bef k (l ++ m) = bef k l ++ bef k m := by simp [bef]
theorem bef_all {k : Nat} {l : List (Int × Int)} (h : ∀ x ∈ l, x.1 < (k : Int)) : bef k l = l := by
  simp only [bef, List.filter_eq_self]
  intro x hx
  simpa using h x hx
theorem bef_none {k : Nat} {l : List (Int × Int)} (h : ∀ x ∈ l, (k : Int) ≤ x.1) : bef k l = [] := by
  simp only [bef, List.filter_eq_nil_iff]
  intro x hx
  have := h x hx
  simp
  omega

theorem evs_tick (step : Int) (s : Nat → Int) (t : Nat) : ∀ k, ∀ x ∈ evs step s t k, x.1 = (t : Int)
  | 0, x, hx => by simp [evs] at hx
  | k + 1, x, hx => by
    unfold evs at hx
    rw [List.mem_append] at hx
    rcases hx with hx | hx
    · exact evs_tick step s t k x hx
    · split at hx
      · simp at hx; rw [hx]
      · split at hx
        · simp at hx; rw [hx]
        · simp at hx

theorem hearS_tick (ch : Nat) (step : Int) (s : Nat → Int) : ∀ t, ∀ x ∈ hearS ch step s t, x.1 < (t : Int)
  | 0, x, hx => by simp [hearS] at hx
  | t + 1, x, hx => by
    unfold hearS at hx
    rw [List.mem_append] at hx
    rcases hx with hx | hx
    · have := hearS_tick ch step s t x hx; omega
    · have := evs_tick step s t ch x hx; omega

theorem hearS_bef (ch : Nat) (step : Int) (s : Nat → Int) (k : Nat) : ∀ n, k ≤ n → bef k (hearS ch step s n) = hearS ch step s k
  | 0, h => by
    have : k = 0 := by omega
    subst this
    rfl
  | n + 1, h => by
    by_cases hk : k = n + 1
    · subst hk
      exact bef_all fun x hx => hearS_tick ch step s (n + 1) x hx
    · show bef k (hearS ch step s n ++ evs step s n ch) = _
      rw [bef_append, hearS_bef ch step s k n (by omega), bef_none fun x hx => by have := evs_tick step s n ch x hx; omega, List.append_nil]

theorem zv_same {s s' : Nat → Int} {n : Nat} (h : ∀ r, r < n → s r = s' r) : ∀ t, t ≤ n → ∀ k, zv s t k = zv s' t k
  | 0, _, _ => rfl
  | t + 1, ht, k => by
    simp only [zv]
    rw [zv_same h t (by omega) k, h t (by omega)]
theorem nowv_same {s s' : Nat → Int} {n t : Nat} (h : ∀ r, r < n → s r = s' r) (ht : t < n) (k : Nat) : nowv s t k = nowv s' t k := by
  unfold nowv
  rw [zv_same h _ ht, zv_same h _ ht]
theorem wasv_same {s s' : Nat → Int} {n t : Nat} (h : ∀ r, r < n → s r = s' r) (ht : t ≤ n) (k : Nat) : wasv s t k = wasv s' t k := by
  cases t with
  | zero => rfl
  | succ t => exact nowv_same h ht k
theorem evs_same {s s' : Nat → Int} {n t : Nat} (step : Int) (h : ∀ r, r < n → s r = s' r) (ht : t < n) : ∀ k, evs step s t k = evs step s' t k
  | 0 => rfl
  | k + 1 => by
    simp only [evs]
    rw [evs_same step h ht k, nowv_same h ht, wasv_same h (Nat.le_of_lt ht)]
theorem hearS_same {s s' : Nat → Int} {n : Nat} (ch : Nat) (step : Int) (h : ∀ r, r < n → s r = s' r) : ∀ t, t ≤ n → hearS ch step s t = hearS ch step s' t
  | 0, _ => rfl
  | t + 1, ht => by
    simp only [hearS]
    rw [hearS_same ch step h t (by omega), evs_same step h ht]

/-- What is not loud moves no part far. -/
theorem zv_quiet {s : Nat → Int} {n : Nat} {m : Int} (hm : 0 ≤ m) (hs : ∀ r, r < n → 0 ≤ s r ∧ s r ≤ m) : ∀ t, t ≤ n → ∀ k, 0 ≤ zv s t k ∧ zv s t k ≤ 256 * m
  | 0, _, k => by simp only [zv]; omega
  | t + 1, ht, k => by
    obtain ⟨h1, h2⟩ := zv_quiet hm hs t (by omega) k
    obtain ⟨h3, h4⟩ := hs t (by omega)
    have hp := two_pow_pos (k + 1)
    simp only [zv]
    generalize (2 : Int) ^ (k + 1) = p at hp
    generalize zv s t k = z at h1 h2
    by_cases h : z ≤ 256 * s t
    · have e1 : 0 ≤ (256 * s t - z) / p := Int.ediv_nonneg (by omega) (by omega)
      have e2 : (256 * s t - z) / p ≤ 256 * s t - z := Int.ediv_le_self _ (by omega)
      omega
    · have e1 : (256 * s t - z) / p < 0 := Int.ediv_neg_of_neg_of_pos (by omega) (by omega)
      have e2 : 256 * s t - z ≤ (256 * s t - z) / p := by
        rw [Int.le_ediv_iff_mul_le (by omega)]
        have : (256 * s t - z) * p ≤ (256 * s t - z) * 1 := Int.mul_le_mul_of_nonpos_left (by omega) (by omega)
        omega
      omega
theorem evs_quiet {s : Nat → Int} {n t : Nat} {step : Int} (h0 : 1 ≤ step) (hs : ∀ r, r < n → 0 ≤ s r ∧ s r < step) (ht : t < n) : ∀ k, evs step s t k = []
  | 0 => rfl
  | k + 1 => by
    have hq : ∀ r, r < n → 0 ≤ s r ∧ s r ≤ step - 1 := fun r hr => by have := hs r hr; omega
    have h1 := zv_quiet (m := step - 1) (by omega) hq (t + 1) ht k
    have h2 := zv_quiet (m := step - 1) (by omega) hq (t + 1) ht (k + 1)
    simp only [evs]
    rw [evs_quiet h0 hs ht k, if_neg (by unfold nowv; omega), if_neg (by unfold nowv; omega)]
    rfl
theorem hearS_quiet {s : Nat → Int} {n : Nat} {step : Int} (ch : Nat) (h0 : 1 ≤ step) (hs : ∀ r, r < n → 0 ≤ s r ∧ s r < step) : ∀ t, t ≤ n → hearS ch step s t = []
  | 0, _ => rfl
  | t + 1, ht => by
    simp only [hearS]
    rw [hearS_quiet ch h0 hs t (by omega), evs_quiet h0 hs ht]
    rfl

theorem feelS_same {s s' : Nat → Int} {n : Nat} (touch back : Int) (h : ∀ r, r < n → s r = s' r) : ∀ t, t ≤ n → feelS touch back s t = feelS touch back s' t
  | 0, _ => rfl
  | t + 1, ht => by
    simp only [feelS]
    rw [feelS_same touch back h t (by omega), h t (by omega)]

theorem feelS_bef (touch back : Int) (a : Nat → Int) : ∀ n, (∀ x ∈ (feelS touch back a n).2, x.1 < (n : Int)) ∧ ∀ k, k ≤ n → bef k (feelS touch back a n).2 = (feelS touch back a k).2
  | 0 => by
    refine ⟨by simp [feelS], fun k hk => ?_⟩
    have : k = 0 := by omega
    subst this
    rfl
  | n + 1 => by
    obtain ⟨h1, h2⟩ := feelS_bef touch back a n
    have key : (feelS touch back a (n + 1)).2 = (feelS touch back a n).2 ∨ ∃ i, (feelS touch back a (n + 1)).2 = (feelS touch back a n).2 ++ [((n : Int), i)] := by
      rw [show feelS touch back a (n + 1) = (if (feelS touch back a n).1 = 0 ∧ touch ≤ a n then (1, (feelS touch back a n).2 ++ [((n : Int), 1)])
        else if (feelS touch back a n).1 = 0 ∧ a n ≤ -touch then (-1, (feelS touch back a n).2 ++ [((n : Int), 0)])
        else if (feelS touch back a n).1 ≠ 0 ∧ (feelS touch back a n).1 * a n < touch - back then (0, (feelS touch back a n).2 ++ [((n : Int), 2)])
        else feelS touch back a n) from rfl]
      split
      · exact .inr ⟨_, rfl⟩
      · split
        · exact .inr ⟨_, rfl⟩
        · split
          · exact .inr ⟨_, rfl⟩
          · exact .inl rfl
    have ht : ∀ x ∈ (feelS touch back a (n + 1)).2, x.1 < ((n + 1 : Nat) : Int) := by
      intro x hx
      rcases key with e | ⟨i, e⟩
      · rw [e] at hx
        have := h1 x hx; omega
      · rw [e, List.mem_append] at hx
        rcases hx with hx | hx
        · have := h1 x hx; omega
        · simp at hx; rw [hx]; simp only; omega
    refine ⟨ht, fun k hk => ?_⟩
    by_cases hkn : k = n + 1
    · subst hkn
      exact bef_all ht
    · rcases key with e | ⟨i, e⟩
      · rw [e]; exact h2 k (by omega)
      · rw [e, bef_append, h2 k (by omega), bef_none (by intro x hx; simp at hx; rw [hx]; simp only; omega), List.append_nil]

/-- What a whisker says, it says in turns. -/
def turnOk (touch : Int) (a : Nat → Int) (t n : Nat) (x : Int × Int) : Prop :=
  (n % 2 = 0 → x.2 = 0 ∨ x.2 = 1) ∧ (n % 2 = 1 → x.2 = 2) ∧ 0 ≤ x.1 ∧ x.1 < (t : Int) ∧ (n % 2 = 0 → (x.2 = 1 → touch ≤ a x.1.toNat) ∧ (x.2 = 0 → a x.1.toNat ≤ -touch))

theorem feelS_turn (touch back : Int) (a : Nat → Int) : ∀ t, ((feelS touch back a t).1 = 0 ↔ (feelS touch back a t).2.length % 2 = 0) ∧ ∀ n x, (feelS touch back a t).2[n]? = some x → turnOk touch a t n x
  | 0 => by simp [feelS]
  | t + 1 => by
    obtain ⟨h1, h2⟩ := feelS_turn touch back a t
    have up : ∀ n x, turnOk touch a t n x → turnOk touch a (t + 1) n x := fun n x ⟨a1, a2, a3, a4, a5⟩ => ⟨a1, a2, a3, by omega, a5⟩
    have snoc : ∀ i, turnOk touch a (t + 1) (feelS touch back a t).2.length ((t : Int), i) → ∀ n x, ((feelS touch back a t).2 ++ [((t : Int), i)])[n]? = some x → turnOk touch a (t + 1) n x := by
      intro i hi n x hx
      by_cases hn : n < (feelS touch back a t).2.length
      · rw [List.getElem?_append_left hn] at hx
        exact up n x (h2 n x hx)
      · rw [List.getElem?_append_right (by omega)] at hx
        by_cases hn2 : n = (feelS touch back a t).2.length
        · subst hn2
          simp only [Nat.sub_self, List.getElem?_cons_zero, Option.some.injEq] at hx
          subst hx
          exact hi
        · rw [List.getElem?_eq_none (by simp; omega)] at hx
          cases hx
    unfold feelS
    split
    · rename_i h
      have he := h1.1 h.1
      refine ⟨?_, snoc 1 ?_⟩
      · simp only [List.length_append, List.length_singleton]; omega
      · refine ⟨fun _ => .inr rfl, fun ho => by omega, by simp only; omega, by simp only; omega, fun _ => ⟨fun _ => ?_, fun h => by simp at h⟩⟩
        simp only [Int.toNat_natCast]
        exact h.2
    · split
      · rename_i h
        have he := h1.1 h.1
        refine ⟨?_, snoc 0 ?_⟩
        · simp only [List.length_append, List.length_singleton]; omega
        · refine ⟨fun _ => .inl rfl, fun ho => by omega, by simp only; omega, by simp only; omega, fun _ => ⟨fun h => by simp at h, fun _ => ?_⟩⟩
          simp only [Int.toNat_natCast]
          exact h.2
      · split
        · rename_i h
          have he : ¬ (feelS touch back a t).2.length % 2 = 0 := fun he => h.1 (h1.2 he)
          refine ⟨?_, snoc 2 ?_⟩
          · simp only [List.length_append, List.length_singleton, true_iff]; omega
          · exact ⟨fun ho => absurd ho he, fun _ => rfl, by simp only; omega, by simp only; omega, fun ho => absurd ho he⟩
        · exact ⟨h1, fun n x hx => up n x (h2 n x hx)⟩

theorem feelS_free {touch back : Int} {a : Nat → Int} {n : Nat} (ha : ∀ r, r < n → -touch < a r ∧ a r < touch) : ∀ t, t ≤ n → feelS touch back a t = (0, [])
  | 0, _ => rfl
  | t + 1, ht => by
    have := ha t (by omega)
    simp only [feelS]
    rw [feelS_free ha t (by omega), if_neg (by simp only; omega), if_neg (by simp only; omega), if_neg (by simp)]
end SX

/-
  Sense: the contract of Hear.
-/
namespace SX
open Go Go.Proofs
set_option maxRecDepth 100000

set_option maxHeartbeats 8000000 in
theorem hear_pure {A pre fn} (hE : EnvOk ⟨A, tabF, sigL sg1, pre, fn, inlL inlH, cmpL cmpT⟩ Try.prog) (H : Has pre fn cs1) : PureFnF Try.prog ⟨[(true, [.int .i64, .int .i64]), INS], [EVS, I64]⟩ 23 (fun _ => True) hearRes := by
  have hf := Try.func23
  have h50 := H cIn (by simp [cs1])
  generalize Try.prog = P at *
  refine PureFnF.of_vc hE 3 hf ?_
  intro ch step a ha _
  have hA := hE.A
  simp only [] at hA
  simp only [LenOk, maxLen] at ha
  generalize hR : hearRes = R
  have p50 : pre 50 = fun _ => True := h50.1
  have hw : ∀ x y z : Int, A.dp (fn 50 [[A.ofI x], [A.ofI y], [A.ofI z]] 0 0) ↔ (y ≤ x ∧ x ≤ z) := fun x y z => by
    have e : fn 50 = withinRes := h50.2
    rw [e]
    subst hA
    exact Iff.rfl
  clear h50
  have f0 : ∀ n f, hearR ch.i step.i a 0 = .ofL n f → DEq (.sl [.int .i64, .int .i64]) (A.ofL n f) (R [[ch, step], [a]] 0 0) := fun n f h => by
    subst hR hA
    rw [show hearRes [[ch, step], [a]] 0 0 = _ from h]; exact DEq.refl _ _
  have f1 : ∀ x : Int, hearR ch.i step.i a 1 = .ofI x → DEq (.int .i64) (A.ofI x) (R [[ch, step], [a]] 1 0) := fun x h => by
    subst hR hA
    rw [show hearRes [[ch, step], [a]] 1 0 = _ from h]; exact DEq.refl _ _
  cbv
  repeat' (first | (refine Br.mk (fun _ => ?_) (fun _ => ?_) <;> cbv) | refine And.intro ?_ ?_ | exact True.intro)
  all_goals (try (rw [p50]; exact True.intro))
  all_goals (try (
    first
      | (refine f0 _ _ (if_neg fun h => ?_); have h1 := h.1; have h2 := h.2.1)
      | (refine f1 _ (congrArg D.ofI (if_neg fun h1 => ?_)))
    clear f0 f1
    ((try clear hK2); (try clear hK); (try clear hE); (try clear fin); subst hA; simp only [Ar.std, IntKind.min, IntKind.max, IntKind.bits, IntKind.signed] at *)
    simp only [hw, hearOk] at *
    omega))
  · rename_i h1 h2 h3
    have hok : hearOk ch.i step.i := by
      clear f0 f1
      ((try clear hK2); (try clear hK); (try clear hE); (try clear fin); subst hA; simp only [Ar.std, IntKind.min, IntKind.max, IntKind.bits, IntKind.signed] at *)
      simp only [hw, hearOk] at *
      omega
    refine f1 _ (congrArg D.ofI ((if_pos hok).trans (if_neg ?_)))
    clear f0 f1
    ((try clear hK2); (try clear hK); (try clear hE); (try clear fin); subst hA; simp only [Ar.std, IntKind.min, IntKind.max, IntKind.bits, IntKind.signed] at *)
    omega
  rename_i h1 h2 h3
  have hok : hearOk ch.i step.i := by
    clear f0 f1
    ((try clear hK2); (try clear hK); (try clear hE); (try clear fin); subst hA; simp only [Ar.std, IntKind.min, IntKind.max, IntKind.bits, IntKind.signed] at *)
    simp only [hw, hearOk] at *
    omega
  have hn : a.n ≤ 4096 := by
    clear f0 f1
    ((try clear hK2); (try clear hK); (try clear hE); (try clear fin); subst hA; simp only [Ar.std, IntKind.min, IntKind.max, IntKind.bits, IntKind.signed] at *)
    omega
  clear h1 h2 h3
  refine loopU hE 1 0 (fun (i : Nat) _ => ([(8, .int .i64 (A.nat i))], [])) (fun i => i ≤ a.n ∧ ∀ r, r < i → -32767 ≤ (a.row r 0).i ∧ (a.row r 0).i ≤ 32767) (fun i => a.n - i) 0 (by refine ⟨?_, ?_⟩ <;> intros <;> omega) ?_ ?_
  · cbv
    repeat' (first | (refine Br.mk (fun _ => ?_) (fun _ => ?_) <;> cbv) | refine And.intro ?_ ?_ | exact True.intro)
    all_goals first | exact Iff.rfl | exact SlEq.refl _ | rfl | (subst hA; rfl)
  · intro i hI K hK
    obtain ⟨hin, heq⟩ := hI
    cbv
    repeat' (first | (refine Br.mk (fun _ => ?_) (fun _ => ?_) <;> cbv) | refine And.intro ?_ ?_ | exact True.intro)
    all_goals (try (rw [p50]; exact True.intro))
    all_goals (try (clear f0 f1; ((try clear hK2); (try clear hK); (try clear hE); (try clear fin); subst hA; simp only [Ar.std, IntKind.min, IntKind.max, IntKind.bits, IntKind.signed, if_true, true_and] at *); omega))
    all_goals (try (
      first
        | (refine f0 _ _ (if_neg fun h => ?_); have h2 := h.2.2.1)
        | (refine f1 _ (congrArg D.ofI ((if_pos hok).trans ((if_pos hn).trans (if_neg fun h2 => ?_)))))
      clear f0 f1
      ((try clear hK2); (try clear hK); (try clear hE); (try clear fin); subst hA; simp only [Ar.std, IntKind.min, IntKind.max, IntKind.bits, IntKind.signed] at *)
      simp only [hw, Int.toNat_natCast] at *
      have := h2 i (by omega)
      omega))
    all_goals (try (exfalso; clear f0 f1; ((try clear hK2); (try clear hK); (try clear hE); (try clear fin); subst hA; simp only [Ar.std, IntKind.min, IntKind.max, IntKind.bits, IntKind.signed] at *); omega))
    · rename_i h1 h2
      have hi : i < a.n := by clear f0 f1; ((try clear hK2); (try clear hK); (try clear hE); (try clear fin); subst hA; simp only [Ar.std, IntKind.min, IntKind.max, IntKind.bits, IntKind.signed] at *); omega
      refine hK (i + 1) _ ⟨hi, fun r hr => ?_⟩ (by omega) ?_
      · by_cases hri : r < i
        · exact heq r hri
        · have : r = i := by omega
          clear f0 f1
          ((try clear hK2); (try clear hK); (try clear hE); (try clear fin); subst hA; simp only [Ar.std, IntKind.min, IntKind.max, IntKind.bits, IntKind.signed] at *)
          simp only [hw, Int.toNat_natCast] at *
          subst this
          omega
      · cbv
        repeat' (first | (refine Br.mk (fun _ => ?_) (fun _ => ?_) <;> cbv) | refine And.intro ?_ ?_ | exact True.intro)
        all_goals first | exact Iff.rfl | exact SlEq.refl _ | rfl | (subst hA; rfl)
    all_goals (try (have hk := hok; simp only [hearOk] at hk; clear f0 f1; ((try clear hK2); (try clear hK); (try clear hE); (try clear fin); subst hA; simp only [Ar.std, IntKind.min, IntKind.max, IntKind.bits, IntKind.signed, if_true, true_and] at *); omega))
    · rename_i h1 h2
      have hall : allIn a (-32767) 32767 := by
        clear f0 f1
        ((try clear hK2); (try clear hK); (try clear hE); (try clear fin); subst hA; simp only [Ar.std, IntKind.min, IntKind.max, IntKind.bits, IntKind.signed] at *)
        exact fun r hr => heq r (by omega)
      clear hK h1 h2 heq hin
      generalize hs : valsOf a = s
      have hs2 : ∀ r, r < a.n → -32767 ≤ s r ∧ s r ≤ 32767 := by subst hs; exact hall
      obtain ⟨C, hC⟩ : ∃ C, ch.i.toNat = C := ⟨_, rfl⟩
      obtain ⟨C1, hC1⟩ : ∃ C1, C + 1 = C1 := ⟨_, rfl⟩
      obtain ⟨ZA, hZ⟩ : ∃ ZA, zArr s = ZA := ⟨_, rfl⟩
      obtain ⟨WA, hW⟩ : ∃ WA, wArr s = WA := ⟨_, rfl⟩
      obtain ⟨N, hN⟩ : ∃ N : Nat → Nat → Nat, (fun t k => (hearS C step.i s t ++ evs step.i s t k).length) = N := ⟨_, rfl⟩
      obtain ⟨G, hG⟩ : ∃ G : Nat → Nat → Nat → Nat → D, (fun t k => evRow (hearS C step.i s t ++ evs step.i s t k)) = G := ⟨_, rfl⟩
      have hk := hok
      simp only [hearOk] at hk
      refine loopK hE 3 1 [0, 1, 2, 4, 5, 7, 8, 40, 41] (fun (t : Nat) b => ⟨[(42, .int .i64 (A.nat t)), (6, .at b 0)], [(4, .arr true ⟨[.int .i64], C1, ZA t 0⟩), (5, .arr true ⟨[.int .i64], C, WA t 0⟩), (b, .arr false ⟨[.int .i64, .int .i64], N t 0, G t 0⟩)], []⟩) (fun t => t ≤ a.n) (fun t => a.n - t) 0 (Nat.zero_le _) ?_ ?_
      · cbv
        repeat' (first | (refine Br.mk (fun _ => ?_) (fun _ => ?_) <;> cbv) | refine And.intro ?_ ?_ | exact True.intro)
        all_goals first | exact Iff.rfl | exact SlEq.refl _ | rfl | (subst hA; rfl) | skip
        · clear f0 f1 hE
          subst hA
          refine ⟨by simp only [Ar.std]; omega, fun r hr => ⟨?_, trivial⟩⟩
          rw [← hZ]
          simp [dEq, zArr, zv, zeroD, D.i_ofI]
        · clear f0 f1 hE
          subst hA
          refine ⟨by simp only [Ar.std]; omega, fun r hr => ⟨?_, trivial⟩⟩
          rw [← hW]
          simp [dEq, wArr, wasv, zeroD, D.i_ofI]
        · rw [← hN]; rfl
      · intro t ht K hK
        cbv
        refine Br.mk (fun h1 => ?_) (fun h1 => ?_) <;> cbv
        · have htn : t < a.n := by (subst hA; simp only [Ar.std] at h1 ⊢); omega
          repeat' (first | (refine Br.mk (fun _ => ?_) (fun _ => ?_) <;> cbv) | refine And.intro ?_ ?_ | exact True.intro)
          · clear f0 f1 hK; ((try clear hK2); (try clear hK); (try clear hE); (try clear fin); subst hA; simp only [Ar.std, IntKind.min, IntKind.max, IntKind.bits, IntKind.signed] at *); omega
          refine loopK hE 3 0 [0, 1, 2, 4, 5, 6, 7, 8, 9, 10, 40, 41, 42, 47, 48] (fun (k : Nat) _ => ⟨[(49, .int .i64 (A.nat k))], [(4, .arr true ⟨[.int .i64], C1, ZA t k⟩)], []⟩) (fun k => k ≤ C1) (fun k => C1 - k) 0 (Nat.zero_le _) ?_ ?_
          · cbv
            repeat' (first | (refine Br.mk (fun _ => ?_) (fun _ => ?_) <;> cbv) | refine And.intro ?_ ?_ | exact True.intro)
            all_goals first | exact Iff.rfl | exact SlEq.refl _ | rfl | (subst hA; rfl) | skip
          · intro k hkC K2 hK2
            cbv
            refine Br.mk (fun h2 => ?_) (fun h2 => ?_) <;> cbv
            · have hkC1 : k < C1 := by (subst hA; simp only [Ar.std] at h2 ⊢); omega
              have b1 := zv_rng hs2 t (by omega) k
              have b2 := hs2 t htn
              have b3 := z_step (zv s t k) (256 * s t) (2 ^ (k + 1)) b1 (by omega) (two_pow_pos _)
              have z0 : (ZA t k k 0).i = zv s t k := by rw [← hZ]; simp [zArr, D.i_ofI]
              have s0 : (a.row t 0).i = s t := by rw [← hs]; rfl
              repeat' (first | (refine Br.mk (fun _ => ?_) (fun _ => ?_) <;> cbv) | refine And.intro ?_ ?_ | exact True.intro)
              all_goals (try (
                clear f0 f1
                ((try clear hK2); (try clear hK); (try clear hE); (try clear fin); subst hA; simp only [Ar.std, IntKind.min, IntKind.max, IntKind.bits, IntKind.signed, if_true] at *)
                (try simp only [Int.toNat_natCast, z0, s0, shl8 _ b2, shrk _ _ (show k ≤ 16 by omega)] at *)
                omega))
              refine hK2 (k + 1) _ hkC1 (by omega) ?_
              cbv
              repeat' (first | (refine Br.mk (fun _ => ?_) (fun _ => ?_) <;> cbv) | refine And.intro ?_ ?_ | exact True.intro)
              all_goals first | exact Iff.rfl | exact SlEq.refl _ | rfl | (subst hA; rfl) | skip
              clear f0 f1 hE hK hK2
              subst hA
              refine SlEq.set1 (k := k) ?_ (fun r hr hr2 => ?_)
              · simp only [Ar.std, Int.toNat_natCast, IntKind.bits] at *
                rw [z0, s0, shl8 _ b2, shrk _ _ (show k ≤ 16 by omega), ← hZ]
                simp only [zArr, D.i_ofI]
                rw [if_pos (by omega)]
                rfl
              · rw [← hZ]
                simp only [zArr, D.i_ofI]
                by_cases hr3 : r < k
                · rw [if_pos (by omega), if_pos hr3]
                · rw [if_neg (by omega), if_neg hr3]
            · have hke : k = C1 := by (subst hA; simp only [Ar.std] at h2 ⊢); omega
              subst hke
              clear hK2
              repeat' (first | (refine Br.mk (fun _ => ?_) (fun _ => ?_) <;> cbv) | refine And.intro ?_ ?_ | exact True.intro)
              refine loopK hE 3 0 [0, 1, 2, 4, 5, 7, 8, 9, 10, 40, 41, 42, 69, 70] (fun (j : Nat) _ => ⟨[(71, .int .i64 (A.nat j)), (6, .at 6 0)], [(5, .arr true ⟨[.int .i64], C, WA t j⟩), (6, .arr false ⟨[.int .i64, .int .i64], N t j, G t j⟩)], []⟩) (fun j => j ≤ C) (fun j => C - j) 0 (Nat.zero_le _) ?_ ?_
              · cbv
                repeat' (first | (refine Br.mk (fun _ => ?_) (fun _ => ?_) <;> cbv) | refine And.intro ?_ ?_ | exact True.intro)
                all_goals first | exact Iff.rfl | exact SlEq.refl _ | rfl | (subst hA; rfl) | skip
              · intro j hj K3 hK3
                cbv
                refine Br.mk (fun h3 => ?_) (fun h3 => ?_) <;> cbv
                · have hjC : j < C := by (subst hA; simp only [Ar.std] at h3 ⊢); omega
                  have z1 : (ZA t k j 0).i = zv s (t + 1) j := by rw [← hZ]; simp only [zArr, D.i_ofI]; rw [if_pos (by omega)]
                  have z2 : (ZA t k (j + 1) 0).i = zv s (t + 1) (j + 1) := by rw [← hZ]; simp only [zArr, D.i_ofI]; rw [if_pos (by omega)]
                  have w0 : (WA t j j 0).i = wasv s t j := by rw [← hW]; simp [wArr, D.i_ofI]
                  have b1 := zv_rng hs2 (t + 1) htn j
                  have b2 := zv_rng hs2 (t + 1) htn (j + 1)
                  have b3 := now_rng hs2 htn j
                  have b4 := was_rng hs2 (Nat.le_of_lt htn) j
                  have b5 : N t j ≤ 65536 + 16 := by
                    have := hearS_len C step.i s t
                    have := evs_len step.i s t j
                    have : t * C ≤ 4096 * 16 := Nat.mul_le_mul (by omega) (by omega)
                    rw [← hN]
                    simp only [List.length_append]
                    omega
                  repeat' (first | (refine Br.mk (fun _ => ?_) (fun _ => ?_) <;> cbv) | refine And.intro ?_ ?_ | exact True.intro)
                  all_goals (try (
                    clear f0 f1 hK3
                    ((try clear hK2); (try clear hK); (try clear hE); (try clear fin); subst hA; simp only [Ar.std, IntKind.min, IntKind.max, IntKind.bits, IntKind.signed, if_true] at *)
                    (try simp only [Int.toNat_natCast, toNat_succ, z1, z2, w0, shr8] at *)
                    (try rw [show (zv s (t + 1) j - zv s (t + 1) (j + 1)) / 256 = nowv s t j from rfl] at *)
                    omega))
                  all_goals (
                    first
                    | (have e : evs step.i s t (j + 1) = evs step.i s t j ++ [((t : Int), 2 * (j : Int))] := by
                         clear f0 f1 hK3; ((try clear hK2); (try clear hK); (try clear hE); (try clear fin); subst hA; simp only [Ar.std, IntKind.min, IntKind.max, IntKind.bits, IntKind.signed] at *); (try simp only [Int.toNat_natCast, toNat_succ, z1, z2, w0, shr8] at *); have nv : (zv s (t + 1) j - zv s (t + 1) (j + 1)) / 256 = nowv s t j := rfl; simp only [nv] at *; rw [evs_succ]
                         repeat' split
                         all_goals first | rfl | (exfalso; omega)
                       have n1 : N t (j + 1) = ((hearS C step.i s t ++ evs step.i s t j) ++ [((t : Int), 2 * (j : Int))]).length := by rw [← hN, List.append_assoc, ← e]
                       have g1 : G t (j + 1) = evRow ((hearS C step.i s t ++ evs step.i s t j) ++ [((t : Int), 2 * (j : Int))]) := by rw [← hG, List.append_assoc, ← e]
                       have n0 : N t j = (hearS C step.i s t ++ evs step.i s t j).length := by rw [← hN]
                       have g0 : G t j = evRow (hearS C step.i s t ++ evs step.i s t j) := by rw [← hG]
                       have e2 : SlEq ⟨[.int .i64, .int .i64], N t (j + 1), G t (j + 1)⟩ ⟨[.int .i64, .int .i64], A.nadd (N t j) 1, A.app (N t j) (G t j) (A.tab [[A.ofI (A.nat t), A.ofI (A.mul 2 (A.nat j))]])⟩ := by
                         rw [n1, g1, n0, g0]
                         clear f0 f1 hE hK hK3
                         subst hA
                         exact evRow_snoc _ _ _
                       have e3 : SlEq ⟨[.int .i64], C, WA t (j + 1)⟩ ⟨[.int .i64], C, A.setR (WA t j) (A.toNat (A.nat j)) 0 [A.ofI (A.shr .i64 (A.sub (A.di (ZA t k (A.toNat (A.nat j)) 0)) (A.di (ZA t k (A.toNat (A.add (A.nat j) 1)) 0))) 8)]⟩ := by
                         clear f0 f1 hE hK hK3
                         subst hA
                         refine SlEq.set1 (k := j) ?_ (fun r hr hr2 => ?_)
                         · simp only [Ar.std, Int.toNat_natCast, toNat_succ, IntKind.bits]
                           rw [z1, z2, shr8, ← hW]
                           simp only [wArr, D.i_ofI]
                           rw [if_pos (by omega)]
                           rfl
                         · rw [← hW]
                           simp only [wArr, D.i_ofI]
                           by_cases hr3 : r < j
                           · rw [if_pos (by omega), if_pos hr3]
                           · rw [if_neg (by omega), if_neg hr3]
                       refine hK3 (j + 1) _ hjC (by omega) ?_
                       cbv
                       repeat' (first | (refine Br.mk (fun _ => ?_) (fun _ => ?_) <;> cbv) | refine And.intro ?_ ?_ | exact True.intro)
                       all_goals first | exact Iff.rfl | exact SlEq.refl _ | rfl | (subst hA; rfl) | exact e2 | exact e3)
                    | (have e : evs step.i s t (j + 1) = evs step.i s t j ++ [((t : Int), 2 * (j : Int) + 1)] := by
                         clear f0 f1 hK3; ((try clear hK2); (try clear hK); (try clear hE); (try clear fin); subst hA; simp only [Ar.std, IntKind.min, IntKind.max, IntKind.bits, IntKind.signed] at *); (try simp only [Int.toNat_natCast, toNat_succ, z1, z2, w0, shr8] at *); have nv : (zv s (t + 1) j - zv s (t + 1) (j + 1)) / 256 = nowv s t j := rfl; simp only [nv] at *; rw [evs_succ]
                         repeat' split
                         all_goals first | rfl | (exfalso; omega)
                       have n1 : N t (j + 1) = ((hearS C step.i s t ++ evs step.i s t j) ++ [((t : Int), 2 * (j : Int) + 1)]).length := by rw [← hN, List.append_assoc, ← e]
                       have g1 : G t (j + 1) = evRow ((hearS C step.i s t ++ evs step.i s t j) ++ [((t : Int), 2 * (j : Int) + 1)]) := by rw [← hG, List.append_assoc, ← e]
                       have n0 : N t j = (hearS C step.i s t ++ evs step.i s t j).length := by rw [← hN]
                       have g0 : G t j = evRow (hearS C step.i s t ++ evs step.i s t j) := by rw [← hG]
                       have e2 : SlEq ⟨[.int .i64, .int .i64], N t (j + 1), G t (j + 1)⟩ ⟨[.int .i64, .int .i64], A.nadd (N t j) 1, A.app (N t j) (G t j) (A.tab [[A.ofI (A.nat t), A.ofI (A.add (A.mul 2 (A.nat j)) 1)]])⟩ := by
                         rw [n1, g1, n0, g0]
                         clear f0 f1 hE hK hK3
                         subst hA
                         exact evRow_snoc _ _ _
                       have e3 : SlEq ⟨[.int .i64], C, WA t (j + 1)⟩ ⟨[.int .i64], C, A.setR (WA t j) (A.toNat (A.nat j)) 0 [A.ofI (A.shr .i64 (A.sub (A.di (ZA t k (A.toNat (A.nat j)) 0)) (A.di (ZA t k (A.toNat (A.add (A.nat j) 1)) 0))) 8)]⟩ := by
                         clear f0 f1 hE hK hK3
                         subst hA
                         refine SlEq.set1 (k := j) ?_ (fun r hr hr2 => ?_)
                         · simp only [Ar.std, Int.toNat_natCast, toNat_succ, IntKind.bits]
                           rw [z1, z2, shr8, ← hW]
                           simp only [wArr, D.i_ofI]
                           rw [if_pos (by omega)]
                           rfl
                         · rw [← hW]
                           simp only [wArr, D.i_ofI]
                           by_cases hr3 : r < j
                           · rw [if_pos (by omega), if_pos hr3]
                           · rw [if_neg (by omega), if_neg hr3]
                       refine hK3 (j + 1) _ hjC (by omega) ?_
                       cbv
                       repeat' (first | (refine Br.mk (fun _ => ?_) (fun _ => ?_) <;> cbv) | refine And.intro ?_ ?_ | exact True.intro)
                       all_goals first | exact Iff.rfl | exact SlEq.refl _ | rfl | (subst hA; rfl) | exact e2 | exact e3)
                    | (have e : evs step.i s t (j + 1) = evs step.i s t j := by
                         clear f0 f1 hK3; ((try clear hK2); (try clear hK); (try clear hE); (try clear fin); subst hA; simp only [Ar.std, IntKind.min, IntKind.max, IntKind.bits, IntKind.signed] at *); (try simp only [Int.toNat_natCast, toNat_succ, z1, z2, w0, shr8] at *); have nv : (zv s (t + 1) j - zv s (t + 1) (j + 1)) / 256 = nowv s t j := rfl; simp only [nv] at *; rw [evs_succ]
                         repeat' split
                         all_goals first | exact List.append_nil _ | (exfalso; omega)
                       have n1 : N t (j + 1) = N t j := by rw [← hN]; show (hearS C step.i s t ++ evs step.i s t (j + 1)).length = _; rw [e]
                       have g1 : G t (j + 1) = G t j := by rw [← hG]; show evRow (hearS C step.i s t ++ evs step.i s t (j + 1)) = _; rw [e]
                       have e2 : SlEq ⟨[.int .i64, .int .i64], N t (j + 1), G t (j + 1)⟩ ⟨[.int .i64, .int .i64], N t j, G t j⟩ := by
                         rw [n1, g1]
                         exact SlEq.refl _
                       have e3 : SlEq ⟨[.int .i64], C, WA t (j + 1)⟩ ⟨[.int .i64], C, A.setR (WA t j) (A.toNat (A.nat j)) 0 [A.ofI (A.shr .i64 (A.sub (A.di (ZA t k (A.toNat (A.nat j)) 0)) (A.di (ZA t k (A.toNat (A.add (A.nat j) 1)) 0))) 8)]⟩ := by
                         clear f0 f1 hE hK hK3
                         subst hA
                         refine SlEq.set1 (k := j) ?_ (fun r hr hr2 => ?_)
                         · simp only [Ar.std, Int.toNat_natCast, toNat_succ, IntKind.bits]
                           rw [z1, z2, shr8, ← hW]
                           simp only [wArr, D.i_ofI]
                           rw [if_pos (by omega)]
                           rfl
                         · rw [← hW]
                           simp only [wArr, D.i_ofI]
                           by_cases hr3 : r < j
                           · rw [if_pos (by omega), if_pos hr3]
                           · rw [if_neg (by omega), if_neg hr3]
                       refine hK3 (j + 1) _ hjC (by omega) ?_
                       cbv
                       repeat' (first | (refine Br.mk (fun _ => ?_) (fun _ => ?_) <;> cbv) | refine And.intro ?_ ?_ | exact True.intro)
                       all_goals first | exact Iff.rfl | exact SlEq.refl _ | rfl | (subst hA; rfl) | exact e2 | exact e3))
                · have hje : j = C := by (subst hA; simp only [Ar.std] at h3 ⊢); omega
                  subst hje
                  clear hK3
                  repeat' (first | (refine Br.mk (fun _ => ?_) (fun _ => ?_) <;> cbv) | refine And.intro ?_ ?_ | exact True.intro)
                  · clear f0 f1 hK; ((try clear hK2); (try clear hK); (try clear hE); (try clear fin); subst hA; simp only [Ar.std, IntKind.min, IntKind.max, IntKind.bits, IntKind.signed, if_true] at *); omega
                  have e1 : SlEq ⟨[.int .i64], k, ZA (t + 1) 0⟩ ⟨[.int .i64], k, ZA t k⟩ := by
                    refine ⟨rfl, fun r hr => ⟨?_, trivial⟩⟩
                    rw [← hZ]
                    simp only [dEq, zArr, D.i_ofI]
                    rw [if_pos hr, if_neg (by omega)]
                  have e2 : SlEq ⟨[.int .i64], j, WA (t + 1) 0⟩ ⟨[.int .i64], j, WA t j⟩ := by
                    refine ⟨rfl, fun r hr => ⟨?_, trivial⟩⟩
                    rw [← hW]
                    simp only [dEq, wArr, D.i_ofI]
                    rw [if_pos hr, if_neg (by omega)]
                    rfl
                  have l1 : hearS j step.i s (t + 1) ++ evs step.i s (t + 1) 0 = hearS j step.i s t ++ evs step.i s t j := List.append_nil _
                  have e3 : SlEq ⟨[.int .i64, .int .i64], N (t + 1) 0, G (t + 1) 0⟩ ⟨[.int .i64, .int .i64], N t j, G t j⟩ := by
                    rw [← hN, ← hG]
                    show SlEq ⟨_, (hearS j step.i s (t + 1) ++ evs step.i s (t + 1) 0).length, evRow (hearS j step.i s (t + 1) ++ evs step.i s (t + 1) 0)⟩ ⟨_, (hearS j step.i s t ++ evs step.i s t j).length, evRow (hearS j step.i s t ++ evs step.i s t j)⟩
                    rw [l1]
                    exact SlEq.refl _
                  refine hK (t + 1) _ htn (by omega) ?_
                  cbv
                  repeat' (first | (refine Br.mk (fun _ => ?_) (fun _ => ?_) <;> cbv) | refine And.intro ?_ ?_ | exact True.intro)
                  all_goals first | exact Iff.rfl | exact SlEq.refl _ | rfl | (subst hA; rfl) | exact e1 | exact e2 | exact e3
        · have hte : t = a.n := by (subst hA; simp only [Ar.std] at h1 ⊢); omega
          subst hte
          clear hK
          have l1 : hearS C step.i s a.n ++ evs step.i s a.n 0 = hearS C step.i s a.n := List.append_nil _
          have n1 : N a.n 0 = (hearS C step.i s a.n).length := by rw [← hN]; show (hearS C step.i s a.n ++ evs step.i s a.n 0).length = _; rw [l1]
          have g1 : G a.n 0 = evRow (hearS C step.i s a.n) := by rw [← hG]; show evRow (hearS C step.i s a.n ++ evs step.i s a.n 0) = _; rw [l1]
          repeat' (first | (refine Br.mk (fun _ => ?_) (fun _ => ?_) <;> cbv) | refine And.intro ?_ ?_ | exact True.intro)
          · rename_i h2
            have hlt : ¬ (hearS ch.i.toNat step.i (valsOf a) a.n).length ≤ 65536 := by
              rw [hC, hs, ← n1]
              clear f0 f1
              ((try clear hK2); (try clear hK); (try clear hE); (try clear fin); subst hA; simp only [Ar.std, IntKind.min, IntKind.max, IntKind.bits, IntKind.signed] at *)
              omega
            exact f0 _ _ (if_neg fun h => hlt h.2.2.2)
          · rename_i h2
            have hlt : ¬ (hearS ch.i.toNat step.i (valsOf a) a.n).length ≤ 65536 := by
              rw [hC, hs, ← n1]
              clear f0 f1
              ((try clear hK2); (try clear hK); (try clear hE); (try clear fin); subst hA; simp only [Ar.std, IntKind.min, IntKind.max, IntKind.bits, IntKind.signed] at *)
              omega
            exact f1 _ (congrArg D.ofI ((if_pos hok).trans ((if_pos hn).trans ((if_pos (by rw [← hs] at hs2; exact hs2)).trans (if_neg hlt)))))
          · rename_i h2
            have hlt : (hearS ch.i.toNat step.i (valsOf a) a.n).length ≤ 65536 := by
              rw [hC, hs, ← n1]
              clear f0 f1
              ((try clear hK2); (try clear hK); (try clear hE); (try clear fin); subst hA; simp only [Ar.std, IntKind.min, IntKind.max, IntKind.bits, IntKind.signed] at *)
              omega
            rw [n1, g1, ← hC, ← hs]
            exact f0 _ _ (if_pos ⟨hok, hn, by rw [← hs] at hs2; exact hs2, hlt⟩)
          · rename_i h2
            have hlt : (hearS ch.i.toNat step.i (valsOf a) a.n).length ≤ 65536 := by
              rw [hC, hs, ← n1]
              clear f0 f1
              ((try clear hK2); (try clear hK); (try clear hE); (try clear fin); subst hA; simp only [Ar.std, IntKind.min, IntKind.max, IntKind.bits, IntKind.signed] at *)
              omega
            exact f1 _ (congrArg D.ofI ((if_pos hok).trans ((if_pos hn).trans ((if_pos (by rw [← hs] at hs2; exact hs2)).trans (if_pos hlt)))))
end SX

/-
  SenseCauses: the contract of before.
-/
namespace SX
open Go Go.Proofs
set_option maxRecDepth 100000

/-- The events before a tick, among the first ones. -/
def befS (l : D) (k : Int) : Nat → List (Int × Int)
  | 0 => []
  | r + 1 => if (l.row r 0).i < k then befS l k r ++ [((l.row r 0).i, (l.row r 1).i)] else befS l k r
def befRes (ds : List (List D)) (_ _ : Nat) : D := .ofL (befS (arg ds 0 0) (arg ds 1 0).i (arg ds 0 0).n).length (evRow (befS (arg ds 0 0) (arg ds 1 0).i (arg ds 0 0).n))
def befPre (ds : List (List D)) : Prop := (arg ds 0 0).n ≤ 1000000

theorem befS_len (l : D) (k : Int) : ∀ r, (befS l k r).length ≤ r
  | 0 => by simp [befS]
  | r + 1 => by
    have := befS_len l k r
    unfold befS
    split
    · simp; omega
    · omega

theorem before_pure {A pre fn} (hE : EnvOk ⟨A, tabF, sigL [], pre, fn, inlL [], cmpL cmpT⟩ Try.prog) : PureFn Try.prog ⟨[EVS, I64], [EVS]⟩ 37 befPre befRes := by
  have hf := Try.func37
  generalize Try.prog = P at *
  refine PureFn.of_vc hE 0 hf ?_
  intro l hl k hp
  have hA := hE.A
  simp only [] at hA
  simp only [LenOk, maxLen] at hl
  replace hp : l.n ≤ 1000000 := hp
  obtain ⟨B, hB⟩ : ∃ B, befS l k.i = B := ⟨_, rfl⟩
  obtain ⟨N, hN⟩ : ∃ N : Nat → Nat, (fun r => (B r).length) = N := ⟨_, rfl⟩
  obtain ⟨G, hG⟩ : ∃ G : Nat → Nat → Nat → D, (fun r => evRow (B r)) = G := ⟨_, rfl⟩
  generalize hR : befRes = R
  have fin : DEq (.sl [.int .i64, .int .i64]) (A.ofL (N l.n) (G l.n)) (R [[l], [k]] 0 0) := by
    subst hR hA hG hN hB
    exact DEq.refl _ _
  have n0 : N 0 = 0 := by rw [← hN, ← hB]; rfl
  have nl : ∀ r, N r ≤ r := fun r => by rw [← hN, ← hB]; exact befS_len l k.i r
  have yes : ∀ r, (l.row r 0).i < k.i → B (r + 1) = B r ++ [((l.row r 0).i, (l.row r 1).i)] := fun r h => by rw [← hB]; exact if_pos h
  have no : ∀ r, ¬ (l.row r 0).i < k.i → B (r + 1) = B r := fun r h => by rw [← hB]; exact if_neg h
  clear hR
  cbv
  refine loopU hE 0 1 (fun (r : Nat) b => ([(10, .int .i64 (A.nat r)), (5, .at b 0)], [(b, .arr false ⟨[.int .i64, .int .i64], N r, G r⟩)])) (fun r => r ≤ l.n) (fun r => l.n - r) 0 (Nat.zero_le _) ?_ ?_
  · cbv
    repeat' (first | (refine Br.mk (fun _ => ?_) (fun _ => ?_) <;> cbv) | refine And.intro ?_ ?_ | exact True.intro)
    all_goals first | exact Iff.rfl | exact SlEq.refl _ | (subst hA; rfl) | exact n0
  · intro r hr K hK
    cbv
    refine Br.mk (fun h1 => ?_) (fun h1 => ?_) <;> cbv
    · have hrl : r < l.n := by (subst hA; simp only [Ar.std] at h1 ⊢); omega
      have hnl := nl r
      refine And.intro (by clear fin hK; ((try clear hK2); (try clear hK); (try clear hE); (try clear fin); subst hA; simp only [Ar.std, IntKind.min, IntKind.max, IntKind.bits, IntKind.signed] at *); omega) ?_
      refine Br.mk (fun h2 => ?_) (fun h2 => ?_) <;> cbv
      · have hb := yes r (by (subst hA; simp only [Ar.std] at h2 ⊢); simp only [Int.toNat_natCast] at h2; exact h2)
        refine And.intro (by clear fin hK; ((try clear hK2); (try clear hK); (try clear hE); (try clear fin); subst hA; simp only [Ar.std, IntKind.min, IntKind.max, IntKind.bits, IntKind.signed] at *); omega) (And.intro (by clear fin hK; ((try clear hK2); (try clear hK); (try clear hE); (try clear fin); subst hA; simp only [Ar.std, IntKind.min, IntKind.max, IntKind.bits, IntKind.signed, if_true] at *); omega) (hK (r + 1) _ hrl (by omega) ?_))
        cbv
        repeat' (first | (refine Br.mk (fun _ => ?_) (fun _ => ?_) <;> cbv) | refine And.intro ?_ ?_ | exact True.intro)
        all_goals first | exact Iff.rfl | exact SlEq.refl _ | (subst hA; rfl) | skip
        clear hE fin hK
        subst hA hG hN
        simp only [Ar.std, Int.toNat_natCast]
        rw [show B (Nat.succ r) = _ from hb]
        exact evRow_snoc _ _ _
      · have hb := no r (by (subst hA; simp only [Ar.std] at h2 ⊢); simp only [Int.toNat_natCast] at h2; exact h2)
        refine And.intro (by clear fin hK; ((try clear hK2); (try clear hK); (try clear hE); (try clear fin); subst hA; simp only [Ar.std, IntKind.min, IntKind.max, IntKind.bits, IntKind.signed, if_true] at *); omega) (hK (r + 1) _ hrl (by omega) ?_)
        cbv
        repeat' (first | (refine Br.mk (fun _ => ?_) (fun _ => ?_) <;> cbv) | refine And.intro ?_ ?_ | exact True.intro)
        all_goals first | exact Iff.rfl | exact SlEq.refl _ | (subst hA; rfl) | skip
        subst hG hN
        simp only []
        rw [show B (Nat.succ r) = _ from hb]
        exact SlEq.refl _
    · have e : r = l.n := by (subst hA; simp only [Ar.std] at h1 ⊢); omega
      subst e
      exact ⟨⟨fin, trivial⟩, trivial⟩

/-- On a list of events it is those before a tick. -/
theorem befS_rows (L : List (Int × Int)) (k : Nat) : ∀ m, m ≤ L.length → befS (.ofL L.length (evRow L)) k m = bef k (L.take m)
  | 0, _ => by simp [befS, bef]
  | m + 1, h => by
    have ih := befS_rows L k m (by omega)
    have hm : m < L.length := by omega
    have e : L.take (m + 1) = L.take m ++ [L[m]] := by rw [List.take_succ_eq_append_getElem hm]
    have e0 : ((D.ofL L.length (evRow L)).row m 0).i = L[m].1 := by simp [D.row_ofL, evRow, D.i_ofI, List.getD_eq_getElem?_getD, hm]
    have e1 : ((D.ofL L.length (evRow L)).row m 1).i = L[m].2 := by simp [D.row_ofL, evRow, D.i_ofI, List.getD_eq_getElem?_getD, hm]
    unfold befS
    rw [e0, e1, ih, e, bef_append]
    split
    · rename_i h; simp [bef, h]
    · rename_i h; simp [bef, h]
theorem befS_all (L : List (Int × Int)) (k : Nat) : befS (.ofL L.length (evRow L)) k L.length = bef k L := by
  rw [befS_rows L k L.length (Nat.le_refl _), List.take_length]
end SX

/-
  SenseCauses: what the calls of the statement return, in plain Lean.
-/
namespace SX
open Go Go.Proofs

theorem hearS_small {ch m : Nat} {step : Int} {s : Nat → Int} (hc : ch ≤ 16) (hm : m ≤ 100) : (hearS ch step s m).length ≤ 1600 := by
  have h := hearS_len ch step s m
  have : m * ch ≤ 100 * 16 := Nat.mul_le_mul hm hc
  omega
theorem feelS_small {m : Nat} {touch back : Int} {s : Nat → Int} (hm : m ≤ 100) : (feelS touch back s m).2.length ≤ 100 := by
  have h := (feelS_rng touch back s m).2
  omega

theorem hearOf {c : Nat} {step : Int} {m : Nat} {s : Nat → Int} (ok : hearOk c step) (hm : m ≤ 100) (hs : ∀ r, r < m → -32767 ≤ s r ∧ s r ≤ 32767) :
    hearRes [[.ofI c, .ofI step], [.ofL m fun r _ => .ofI (s r)]] 0 0 = .ofL (hearS c step s m).length (evRow (hearS c step s m)) ∧ hearRes [[.ofI c, .ofI step], [.ofL m fun r _ => .ofI (s r)]] 1 0 = .ofI 0 := by
  have v : valsOf (.ofL m fun r _ => .ofI (s r)) = s := by funext r; simp [valsOf, D.row_ofL, D.i_ofI]
  have al : allIn (.ofL m fun r _ => .ofI (s r)) (-32767) 32767 := fun r hr => by
    simp only [D.row_ofL, D.i_ofI]
    exact hs r hr
  have hl : (hearS c step s m).length ≤ 1600 := hearS_small (by have := ok.1; omega) hm
  have e : ∀ i, hearRes [[.ofI c, .ofI step], [.ofL m fun r _ => .ofI (s r)]] i 0 = hearR c step (.ofL m fun r _ => .ofI (s r)) i := fun i => rfl
  have hl' : (hearS (c : Int).toNat step (valsOf (.ofL m fun r _ => .ofI (s r))) (D.ofL m fun r _ => .ofI (s r)).n).length ≤ 65536 := by
    rw [v, Int.toNat_natCast]
    show (hearS c step s m).length ≤ 65536
    omega
  have hm' : (D.ofL m fun r _ => .ofI (s r)).n ≤ 4096 := by show m ≤ 4096; omega
  constructor
  · refine (e 0).trans ((if_pos ⟨ok, hm', al, hl'⟩).trans ?_)
    rw [v, Int.toNat_natCast]
    rfl
  · exact (e 1).trans (congrArg D.ofI ((if_pos ok).trans ((if_pos hm').trans ((if_pos al).trans (if_pos hl')))))

theorem feelOf {touch back : Int} {m : Nat} {s : Nat → Int} (ok : feelOk touch back) (hm : m ≤ 100) (hs : ∀ r, r < m → -1000 ≤ s r ∧ s r ≤ 1000) :
    feelRes [[.ofI touch, .ofI back], [.ofL m fun r _ => .ofI (s r)]] 0 0 = .ofL (feelS touch back s m).2.length (evRow (feelS touch back s m).2) ∧ feelRes [[.ofI touch, .ofI back], [.ofL m fun r _ => .ofI (s r)]] 1 0 = .ofI 0 := by
  have v : valsOf (.ofL m fun r _ => .ofI (s r)) = s := by funext r; simp [valsOf, D.row_ofL, D.i_ofI]
  have al : allIn (.ofL m fun r _ => .ofI (s r)) (-1000) 1000 := fun r hr => by
    simp only [D.row_ofL, D.i_ofI]
    exact hs r hr
  have e : ∀ i, feelRes [[.ofI touch, .ofI back], [.ofL m fun r _ => .ofI (s r)]] i 0 = feelR touch back (.ofL m fun r _ => .ofI (s r)) i := fun i => rfl
  have hm' : (D.ofL m fun r _ => .ofI (s r)).n ≤ 4096 := by show m ≤ 4096; omega
  constructor
  · refine (e 0).trans ((if_pos ⟨ok, hm', al⟩).trans ?_)
    rw [v]
    rfl
  · exact (e 1).trans (congrArg D.ofI ((if_pos ok).trans ((if_pos hm').trans (if_pos al))))

theorem befOf (L : List (Int × Int)) (k : Nat) : befRes [[.ofL L.length (evRow L)], [.ofI k]] 0 0 = .ofL (bef k L).length (evRow (bef k L)) := by
  show D.ofL (befS (.ofL L.length (evRow L)) k L.length).length _ = _
  rw [show arg [[D.ofL L.length (evRow L)], [D.ofI k]] 0 0 = D.ofL L.length (evRow L) from rfl, show (arg [[D.ofL L.length (evRow L)], [D.ofI (k : Int)]] 1 0).i = (k : Int) from D.i_ofI _, show (D.ofL L.length (evRow L)).n = L.length from rfl, befS_all]

theorem evEq_refl (n : Nat) (f : Nat → Nat → D) : evEq (D.ofL n f) (D.ofL n f) := ⟨rfl, fun _ _ => ⟨rfl, rfl⟩⟩
theorem events_refl (n : Nat) (f : Nat → Nat → D) : (eventsRes [[.ofL n f], [.ofL n f]] 0 0).p := (D.p_ofP _).symm ▸ evEq_refl n f

/-- What the statement's first comparisons ask of an ear. -/
theorem hearFirst {c : Nat} {step : Int} {m C : Nat} {s : Nat → Int} (ok : hearOk c step) (hm : m ≤ 100) (hC : C ≤ m) (hs : ∀ r, r < m → -32767 ≤ s r ∧ s r ≤ 32767) :
    (eventsRes [[.ofL (befRes [[.ofL (hearRes [[.ofI c, .ofI step], [.ofL m fun r _ => .ofI (s r)]] 0 0).n (hearRes [[.ofI c, .ofI step], [.ofL m fun r _ => .ofI (s r)]] 0 0).row], [.ofI C]] 0 0).n (befRes [[.ofL (hearRes [[.ofI c, .ofI step], [.ofL m fun r _ => .ofI (s r)]] 0 0).n (hearRes [[.ofI c, .ofI step], [.ofL m fun r _ => .ofI (s r)]] 0 0).row], [.ofI C]] 0 0).row],
      [.ofL (hearRes [[.ofI c, .ofI step], [.ofL C fun r _ => .ofI (s r)]] 0 0).n (hearRes [[.ofI c, .ofI step], [.ofL C fun r _ => .ofI (s r)]] 0 0).row]] 0 0).p := by
  rw [(hearOf ok hm hs).1, (hearOf ok (Nat.le_trans hC hm) fun r hr => hs r (by omega)).1, show D.ofL (D.ofL (hearS c step s m).length (evRow (hearS c step s m))).n (D.ofL (hearS c step s m).length (evRow (hearS c step s m))).row = D.ofL (hearS c step s m).length (evRow (hearS c step s m)) from rfl, befOf, hearS_bef c step s C m hC]
  exact events_refl _ _
theorem feelFirst {touch back : Int} {m C : Nat} {s : Nat → Int} (ok : feelOk touch back) (hm : m ≤ 100) (hC : C ≤ m) (hs : ∀ r, r < m → -1000 ≤ s r ∧ s r ≤ 1000) :
    (eventsRes [[.ofL (befRes [[.ofL (feelRes [[.ofI touch, .ofI back], [.ofL m fun r _ => .ofI (s r)]] 0 0).n (feelRes [[.ofI touch, .ofI back], [.ofL m fun r _ => .ofI (s r)]] 0 0).row], [.ofI C]] 0 0).n (befRes [[.ofL (feelRes [[.ofI touch, .ofI back], [.ofL m fun r _ => .ofI (s r)]] 0 0).n (feelRes [[.ofI touch, .ofI back], [.ofL m fun r _ => .ofI (s r)]] 0 0).row], [.ofI C]] 0 0).row],
      [.ofL (feelRes [[.ofI touch, .ofI back], [.ofL C fun r _ => .ofI (s r)]] 0 0).n (feelRes [[.ofI touch, .ofI back], [.ofL C fun r _ => .ofI (s r)]] 0 0).row]] 0 0).p := by
  rw [(feelOf ok hm hs).1, (feelOf ok (Nat.le_trans hC hm) fun r hr => hs r (by omega)).1, show D.ofL (D.ofL (feelS touch back s m).2.length (evRow (feelS touch back s m).2)).n (D.ofL (feelS touch back s m).2.length (evRow (feelS touch back s m).2)).row = D.ofL (feelS touch back s m).2.length (evRow (feelS touch back s m).2) from rfl, befOf, (feelS_bef touch back s m).2 C hC]
  exact events_refl _ _
end SX
