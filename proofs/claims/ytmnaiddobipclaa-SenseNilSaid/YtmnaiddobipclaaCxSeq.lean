/-
  CX: operations in order.
-/
import Derived.Test.YtmnaiddobipclaaCxOp
namespace CX
open Go

theorem conv1_ok {ρ : Nm} {n : Nat} {u : Value} {v : V} (h : conv1 u = some v) : Rv ρ n v u := by
  unfold conv1 at h
  split at h <;> first | cases h; done | skip
  all_goals (simp only [Option.some.injEq] at h; subst h)
  all_goals simp only [Rv]
  rename_i s
  refine ⟨fun x hx => ?_, ?_⟩
  · obtain ⟨b, _, rfl⟩ := List.mem_map.1 hx
    exact b.toNat_lt
  · congr 1
    simp only [bytesOf, List.map_map]
    have : (UInt8.ofNat ∘ UInt8.toNat) = id := by funext x; simp
    rw [this, List.map_id]

theorem convL_ok {ρ : Nm} {n : Nat} : ∀ (us : List Value) {vs : List V}, convL us = some vs → RvL ρ n vs us
  | [], vs, h => by simp only [convL, Option.some.injEq] at h; subst h; simp [RvL]
  | u :: us, vs, h => by
    simp only [convL] at h
    split at h
    · rename_i v l hv hl
      simp only [Option.some.injEq] at h
      subst h
      simp only [RvL]
      exact ⟨conv1_ok hv, convL_ok us hl⟩
    · cases h

theorem conv_ok {ρ : Nm} {n : Nat} {u : Value} {v : V} (h : conv u = some v) : Rv ρ n v u := by
  unfold conv at h
  split at h
  · split at h
    · rename_i cs l hl
      simp only [Option.some.injEq] at h
      subst h
      simp only [Rv]
      exact ⟨_, convL_ok _ hl, rfl⟩
    · cases h
  · exact conv1_ok h

theorem evR_ok {ρ : Nm} {n : Nat} {regs : T V} {a : Act} (hR : RegsOk ρ n regs a.tmps) (x : Operand) (v : V) (h : evR regs x = some v) : Rv ρ n v (a.eval x) := by
  cases x with
  | tmp t =>
    obtain ⟨u, h1, h2⟩ := hR t v h
    have : a.eval (.tmp t) = u := by simp [Act.eval, Array.getD_eq_getD_getElem?, h1]
    rw [this]; exact h2
  | const c => exact conv_ok h
  | func f =>
    simp only [evR, Option.some.injEq] at h
    subst h
    simp only [Rv]
    exact ⟨[], [], by simp [RvL], by simp [RvL], rfl⟩
  | «global» g => cases h

noncomputable def upD (regs : T V) (dst : Option Nat) (v : V) : T V :=
  match dst with
  | none => regs
  | some d => regs.up d (some v)

theorem putD_ok {S : St} {dst : Option Nat} {v : V} {h : T O} {nx : Nat} {k : St → R} {r : Ex × St} (hk : putD S dst v h nx k = some r) :
    k ⟨S.nt, S.bar, upD S.regs dst v, h, nx, S.df⟩ = some r ∧ ∀ d, dst = some d → d < S.nt := by
  cases dst with
  | none => exact ⟨hk, fun d h => by cases h⟩
  | some d =>
    simp only [putD] at hk
    split at hk
    · rename_i hd
      rw [T.set_eq] at hk
      exact ⟨hk, fun d' h => by cases h; simpa [Nat.blt_eq] using hd⟩
    · cases hk

theorem put_ok {ρ : Nm} {n nt : Nat} {regs : T V} {a : Act} {dst : Option Nat} {v : V} {u : Value} (hR : RegsOk ρ n regs a.tmps) (hv : Rv ρ n v u) (hs : a.tmps.size = nt) (hd : ∀ d, dst = some d → d < nt) :
    RegsOk ρ n (upD regs dst v) (a.put dst u).tmps ∧ (a.put dst u).tmps.size = nt ∧ (a.put dst u).defers = a.defers := by
  cases dst with
  | none => exact ⟨hR, hs, rfl⟩
  | some d =>
    refine ⟨fun t y ht => ?_, by simp [Act.put, hs], rfl⟩
    have hd := hd d rfl
    simp only [upD] at ht
    rw [T.get_up] at ht
    simp only [Act.put]
    split at ht
    · rename_i e
      subst e
      simp only [Option.some.injEq] at ht
      subst ht
      exact ⟨u, by simp [hs, hd], hv⟩
    · rename_i e
      obtain ⟨u', h1, h2⟩ := hR t y ht
      exact ⟨u', by rw [Array.getElem?_setIfInBounds_ne (Ne.symm e)]; exact h1, h2⟩

theorem wantX_ok {regs : T V} {all : Array Oper} {o : Oper} {k : Bool → R} {r : Ex × St} (h : wantX regs all.toList o k = some r) {ρ : Nm} {n : Nat} {a : Act} (hR : RegsOk ρ n regs a.tmps) :
    k (Region.wanted o (yielded all a.tmps)) = some r := by
  unfold wantX at h
  split at h
  · rename_i hg
    simpa [Region.wanted, hg] using h
  · rename_i g want hg
    split at h
    · rename_i og hog
      split at h
      · rename_i d hd
        rw [nth_eq] at hog
        have hd' : (all[g]?).bind (·.dst) = some d := by
          rw [Array.getElem?_toList] at hog
          simp [hog, hd]
        split at h
        · rename_i b hb
          obtain ⟨u, h1, h2⟩ := hR d _ hb
          simp only [Rv] at h2
          subst h2
          have hw : Region.wanted o (yielded all a.tmps) = (b == want) := by
            simp only [Region.wanted, hg, yielded, hd', Option.bind_some, h1]
            cases b <;> cases want <;> rfl
          rw [hw]
          split at h
          · exact h
          · exact h
          · rename_i h3 h4
            cases b <;> cases want <;> first | exact h | exact (h3 rfl rfl).elim | exact (h4 rfl rfl).elim
        · rename_i hb
          obtain ⟨u, h1, h2⟩ := hR d _ hb
          simp only [Rv] at h2
          obtain ⟨x, hx, rfl⟩ := h2
          have hw : Region.wanted o (yielded all a.tmps) = false := by
            simp only [Region.wanted, hg, yielded, hd', Option.bind_some, h1]
            cases want <;> rfl
          rw [hw]; exact h
        · cases h
      · cases h
    · cases h

section
variable {P : Program} {E : Env} (hE : EnvOk E P) {ih : IH} (hI : IhOk P ih) {ro : Option Nat}
include hE hI

theorem seqOps_ok (all : Array Oper) {ρ0 : Nm} {S0 : St} {w0 : World} : ∀ (rest : List Oper) (i : Nat) (S : St) {k : St → R} {r : Ex × St}, (∀ (j : Nat), rest[j]? = all[i + j]?) → seqOps E ih all.toList rest S k = some r →
    ∀ {ρ : Nm} {a : Act} {w : World}, Lands ρ0 S0 w0 S a w ρ → ∀ {Q : Exit → Act → World → Prop}, (∀ S' ρ' a' w', k S' = some r → Lands ρ0 S0 w0 S' a' w' ρ' → Q .normal a' w') →
    wpOpsIn (Fw ro) 0 P all Q (List.range' i rest.length) a w
  | [], i, S, k, r, _, h, ρ, a, w, hL, Q, hQ => by
    simp only [List.length_nil, List.range'_zero, wpOpsIn]
    exact hQ S ρ a w h hL
  | o :: rest, i, S, k, r, hall, h, ρ, a, w, hL, Q, hQ => by
    have h0 : all[i]? = some o := by simpa using (hall 0).symm
    have hall' : ∀ (j : Nat), rest[j]? = all[i + 1 + j]? := fun j => by have := hall (j + 1); simpa [Nat.add_assoc, Nat.add_comm 1 j] using this
    simp only [List.length_cons, List.range'_succ, wpOpsIn, h0]
    simp only [seqOps] at h
    have h := wantX_ok h hL.sat.regs
    cases hw : Region.wanted o (yielded all a.tmps) with
    | true =>
      rw [hw] at h
      simp only at h
      rw [if_pos rfl]
      obtain ⟨v, g', n', h1, h2⟩ := opA_ok hI hE hL.sat.hs (fun x _ v hv => evR_ok hL.sat.regs x v hv) h
      refine h2 ro _ _ fun u ρ' w' hv hS' hag hn hfr => ?_
      obtain ⟨h3, hd⟩ := putD_ok h1
      have hR' : RegsOk ρ' n' S.regs a.tmps := hL.sat.regs.ext hn (fun i L hi hl => by rw [hag i hi]; exact hl)
      obtain ⟨g1, g2, g3⟩ := put_ok hR' hv hL.sat.size hd
      exact seqOps_ok all rest (i + 1) _ hall' h3 (hL.trans ⟨⟨hS', g2, g1, by rw [g3]; exact hL.sat.df.ext hn (fun i L hi hl => by rw [hag i hi]; exact hl)⟩, hag, hn, rfl, rfl, hfr⟩) hQ
    | false =>
      rw [hw] at h
      simp only at h
      simp only [Bool.false_eq_true, if_false]
      refine ⟨fun _ _ => trivial, ?_⟩
      obtain ⟨h3, hd⟩ := putD_ok h
      obtain ⟨g1, g2, g3⟩ := put_ok (u := undef) hL.sat.regs (v := .tup []) (by simp only [Rv]; exact ⟨[], by simp [RvL], rfl⟩) hL.sat.size hd
      exact seqOps_ok all rest (i + 1) _ hall' h3 (hL.trans ⟨⟨hL.sat.hs, g2, g1, by rw [g3]; exact hL.sat.df⟩, agree.refl _ _, Nat.le_refl _, rfl, rfl, Fr.refl _ _⟩) hQ
end
end CX
