/-
  CX: drawn regions: what the executor's bookkeeping says.
-/
import Derived.Test.YtmnaiddobipclaaCxSeq
namespace CX
open Go

/-! ### Bits -/

theorem bit_eq (m i : Nat) : bit m i = m.testBit i := by
  rw [Nat.testBit_eq_decide_div_mod_eq]
  unfold bit
  rw [Bool.eq_iff_iff, Nat.beq_eq, decide_eq_true_eq]
  rw [show Nat.shiftRight m i = m / 2 ^ i from Nat.shiftRight_eq_div_pow m i, show Nat.land (m / 2 ^ i) 1 = m / 2 ^ i % 2 from Nat.and_one_is_mod _]

theorem lor_bit (a m e j : Nat) : (Nat.lor a (Nat.lor m (Nat.shiftLeft 1 e))).testBit j = true ↔ a.testBit j = true ∨ m.testBit j = true ∨ j = e := by
  show (a ||| (m ||| 1 <<< e)).testBit j = true ↔ _
  rw [Nat.testBit_or, Nat.testBit_or, Nat.testBit_shiftLeft]
  have : (decide (j ≥ e) && Nat.testBit 1 (j - e)) = true ↔ j = e := by
    rw [Bool.and_eq_true, decide_eq_true_eq, Nat.testBit_one_eq_true_iff_self_eq_zero]
    omega
  rw [Bool.or_eq_true, Bool.or_eq_true, this]

theorem maskOf_ok {β : Type} {cl : T Nat} : ∀ (l : List Edge) (acc : Nat) {k : Nat → Option β} {r : β}, maskOf cl l acc k = some r →
    ∃ m, k m = some r ∧ (∀ j, m.testBit j = true → acc.testBit j = true ∨ ∃ e ∈ l, bindsA e = true ∧ (j = e.on ∨ ∃ me, cl.get e.on = some me ∧ me.testBit j = true)) ∧
      (∀ e ∈ l, bindsA e = true → ∃ me, cl.get e.on = some me ∧ m.testBit e.on = true) ∧ (∀ j, acc.testBit j = true → m.testBit j = true)
  | [], acc, k, r, h => ⟨acc, h, fun j hj => .inl hj, fun e he => by simp at he, fun _ h => h⟩
  | e :: l, acc, k, r, h => by
    simp only [maskOf] at h
    split at h
    · rename_i hb
      obtain ⟨m, h1, h2, h3, h4⟩ := maskOf_ok l acc h
      refine ⟨m, h1, fun j hj => (h2 j hj).imp id fun ⟨e', g1, g2⟩ => ⟨e', by simp [g1], g2⟩, fun e' he' hbe => ?_, h4⟩
      rcases List.mem_cons.1 he' with rfl | he'
      · rw [hb] at hbe; cases hbe
      · exact h3 e' he' hbe
    · rename_i hb
      split at h
      · rename_i me hme
        rw [fN_eq] at h
        obtain ⟨m, h1, h2, h3, h4⟩ := maskOf_ok l _ h
        refine ⟨m, h1, fun j hj => ?_, fun e' he' hbe => ?_, fun j hj => h4 j ((lor_bit _ _ _ _).2 (.inl hj))⟩
        · rcases h2 j hj with h | ⟨e', g1, g2⟩
          · rcases (lor_bit _ _ _ _).1 h with h | h | h
            · exact .inl h
            · exact .inr ⟨e, by simp, hb, .inr ⟨me, hme, h⟩⟩
            · exact .inr ⟨e, by simp, hb, .inl h⟩
          · exact .inr ⟨e', by simp [g1], g2⟩
        · rcases List.mem_cons.1 he' with rfl | he'
          · exact ⟨me, hme, h4 _ ((lor_bit _ _ _ _).2 (.inr (.inr rfl)))⟩
          · exact h3 e' he' hbe
      · cases h

structure PrepOk (ops : List Oper) (ms dm : T Nat) : Prop where
  hm : ∀ (i : Nat) o, ops[i]? = some o → ∃ m, ms.get i = some m ∧ (∀ j, m.testBit j = true → ∃ e ∈ o.after.toList, bindsA e = true ∧ (j = e.on ∨ ∃ me, ms.get e.on = some me ∧ me.testBit j = true)) ∧
    ∀ e ∈ o.after.toList, bindsA e = true → e.on < i
  lt : ∀ i m j, ms.get i = some m → m.testBit j = true → j < i
  hd : ∀ (i : Nat) o d, ops[i]? = some o → o.dst = some d → dm.get d = some i
  nms : ∀ i m, ms.get i = some m → i < ops.length

theorem prep_ok {β : Type} : ∀ (rest pre : List Oper) (ms dm : T Nat) {k : T Nat → T Nat → Option β} {r : β}, prep rest pre.length ms dm k = some r → PrepOk pre ms dm →
    ∃ ms' dm', k ms' dm' = some r ∧ PrepOk (pre ++ rest) ms' dm'
  | [], pre, ms, dm, k, r, h, hp => ⟨ms, dm, h, by simpa using hp⟩
  | o :: rest, pre, ms, dm, k, r, h, hp => by
    simp only [prep] at h
    obtain ⟨m, h, h2, h3, _⟩ := maskOf_ok _ _ h
    rw [T.set_eq] at h
    have old : ∀ i x, ms.get i = some x → (ms.up pre.length (some m)).get i = some x := fun i x hx => by
      rw [T.get_up, if_neg (Nat.ne_of_lt (hp.nms i x hx))]; exact hx
    have back : ∀ i x, i < pre.length → (ms.up pre.length (some m)).get i = some x → ms.get i = some x := fun i x hi hx => by
      rw [T.get_up, if_neg (Nat.ne_of_lt hi)] at hx; exact hx
    have hlt0 : ∀ j, m.testBit j = true → j < pre.length := by
      intro j hj
      rcases h2 j hj with h | ⟨e, he, hb, h⟩
      · simp at h
      · obtain ⟨me, hme, _⟩ := h3 e he hb
        rcases h with rfl | ⟨me', hme', h⟩
        · exact hp.nms _ _ hme
        · rw [hme] at hme'; cases hme'
          exact Nat.lt_trans (hp.lt _ _ _ hme h) (hp.nms _ _ hme)
    have mk : ∀ dm', (∀ (i : Nat) o' d, (pre ++ [o])[i]? = some o' → o'.dst = some d → dm'.get d = some i) → PrepOk (pre ++ [o]) (ms.up pre.length (some m)) dm' := by
      intro dm' hdm
      refine ⟨fun i o' ho => ?_, fun i x j hx hj => ?_, hdm, fun i x hx => ?_⟩
      · by_cases hi : i < pre.length
        · rw [List.getElem?_append_left hi] at ho
          obtain ⟨x, g1, g2, g3⟩ := hp.hm i o' ho
          refine ⟨x, old i x g1, fun j hj => ?_, g3⟩
          obtain ⟨e, he, hb, h⟩ := g2 j hj
          exact ⟨e, he, hb, h.imp id fun ⟨me, hme, hj⟩ => ⟨me, old _ _ hme, hj⟩⟩
        · rw [List.getElem?_append_right (by omega)] at ho
          have hi' : i - pre.length = 0 := by
            cases hh : i - pre.length with
            | zero => rfl
            | succ q => rw [hh] at ho; simp at ho
          have hi : i = pre.length := by omega
          subst hi
          simp only [Nat.sub_self, List.getElem?_cons_zero, Option.some.injEq] at ho
          subst ho
          refine ⟨m, by rw [T.get_up, if_pos rfl], fun j hj => ?_, fun e he hb => ?_⟩
          · rcases h2 j hj with h | ⟨e, he, hb, h⟩
            · simp at h
            · exact ⟨e, he, hb, h.imp id fun ⟨me, hme, hj⟩ => ⟨me, old _ _ hme, hj⟩⟩
          · obtain ⟨me, hme, _⟩ := h3 e he hb
            exact hp.nms _ _ hme
      · rw [T.get_up] at hx
        split at hx
        · rename_i e
          simp only [Option.some.injEq] at hx
          subst hx e
          exact hlt0 j hj
        · exact hp.lt i x j hx hj
      · rw [T.get_up] at hx
        rw [List.length_append]
        split at hx
        · rename_i e; subst e; simp
        · have := hp.nms i x hx; omega
    have fin : ∀ dm', prep rest (Nat.succ pre.length) (ms.up pre.length (some m)) dm' k = some r → (∀ (i : Nat) o' d, (pre ++ [o])[i]? = some o' → o'.dst = some d → dm'.get d = some i) →
        ∃ ms' dm', k ms' dm' = some r ∧ PrepOk (pre ++ o :: rest) ms' dm' := by
      intro dm' h hdm
      have := prep_ok rest (pre ++ [o]) _ dm' (k := k) (r := r) (by simpa using h) (mk dm' hdm)
      simpa using this
    have last : ∀ (i : Nat) o', (pre ++ [o])[i]? = some o' → (pre[i]? = some o' ∧ i < pre.length) ∨ (i = pre.length ∧ o' = o) := by
      intro i o' ho
      by_cases hi : i < pre.length
      · rw [List.getElem?_append_left hi] at ho; exact .inl ⟨ho, hi⟩
      · rw [List.getElem?_append_right (by omega)] at ho
        cases hh : i - pre.length with
        | zero => rw [hh] at ho; simp only [List.getElem?_cons_zero, Option.some.injEq] at ho; exact .inr ⟨by omega, ho.symm⟩
        | succ q => rw [hh] at ho; simp at ho
    split at h
    · rename_i hd
      refine fin dm h fun i o' d ho hdo => ?_
      rcases last i o' ho with ⟨ho, _⟩ | ⟨_, rfl⟩
      · exact hp.hd i o' d ho hdo
      · rw [hd] at hdo; cases hdo
    · rename_i d hd
      split at h
      · rename_i hdn
        rw [T.set_eq] at h
        refine fin _ h fun i o' d' ho hdo => ?_
        rcases last i o' ho with ⟨ho, _⟩ | ⟨hi, rfl⟩
        · have := hp.hd i o' d' ho hdo
          rw [T.get_up, if_neg (fun e => by subst e; rw [hdn] at this; cases this)]
          exact this
        · rw [hd] at hdo
          cases hdo
          rw [T.get_up, if_pos rfl, hi]
      · cases h

/-! ### Views and merges -/

noncomputable def partS (h : T O) : List Nat → T O → T O
  | [], t => t
  | x :: r, t => partS h r (t.up x (h.get x))
theorem part_eq {β : Type} (h : T O) : ∀ (F : List Nat) (t : T O) (k : T O → β), part h F t k = k (partS h F t)
  | [], _, _ => rfl
  | x :: r, t, k => by simp only [part, partS]; rw [T.set_eq]; exact part_eq h r _ k
theorem partS_get (h : T O) : ∀ (F : List Nat) (t : T O) (j : Nat), (partS h F t).get j = if j ∈ F then h.get j else t.get j
  | [], t, j => by simp [partS]
  | x :: r, t, j => by
    simp only [partS]
    rw [partS_get h r, T.get_up]
    by_cases h1 : j ∈ r
    · simp [h1]
    · by_cases h2 : j = x
      · subst h2; simp [h1]
      · simp [h1, h2]

noncomputable def copyS (g : T O) : Nat → Nat → T O → T O
  | _, 0, h => h
  | lo, n + 1, h => copyS g (Nat.succ lo) n (h.up lo (g.get lo))
theorem copyN_eq {β : Type} (g : T O) : ∀ (n lo : Nat) (h : T O) (k : T O → β), copyN g lo n h k = k (copyS g lo n h)
  | 0, _, _, _ => rfl
  | n + 1, lo, h, k => by simp only [copyN, copyS]; rw [T.set_eq]; exact copyN_eq g n _ _ k
theorem copyS_get (g : T O) : ∀ (n lo : Nat) (h : T O) (j : Nat), (copyS g lo n h).get j = if lo ≤ j ∧ j < lo + n then g.get j else h.get j
  | 0, lo, h, j => by rw [if_neg (by omega)]; rfl
  | n + 1, lo, h, j => by
    simp only [copyS]
    rw [copyS_get g n, T.get_up]
    by_cases h1 : Nat.succ lo ≤ j ∧ j < Nat.succ lo + n
    · rw [if_pos h1, if_pos (by omega)]
    · rw [if_neg h1]
      by_cases h2 : j = lo
      · subst h2; rw [if_pos rfl, if_pos (by omega)]
      · rw [if_neg h2, if_neg (by omega)]

noncomputable def dropS : Nat → Nat → T O → T O
  | _, 0, h => h
  | lo, n + 1, h => dropS (Nat.succ lo) n (h.up lo none)
theorem dropN_eq {β : Type} : ∀ (n lo : Nat) (h : T O) (k : T O → β), dropN lo n h k = k (dropS lo n h)
  | 0, _, _, _ => rfl
  | n + 1, lo, h, k => by simp only [dropN, dropS]; rw [T.set_eq]; exact dropN_eq n _ _ k
theorem dropS_get : ∀ (n lo : Nat) (h : T O) (j : Nat) (o : O), (dropS lo n h).get j = some o → h.get j = some o ∧ ¬ (lo ≤ j ∧ j < lo + n)
  | 0, lo, h, j, o, hj => ⟨hj, by omega⟩
  | n + 1, lo, h, j, o, hj => by
    simp only [dropS] at hj
    obtain ⟨h1, h2⟩ := dropS_get n _ _ j o hj
    rw [T.get_up] at h1
    split at h1
    · cases h1
    · exact ⟨h1, by omega⟩

noncomputable def withoutS (cl : Nat) : List Rc → T O → T O
  | [], h => h
  | r :: rs, h => match bit cl r.i with
    | true => withoutS cl rs h
    | false => withoutS cl rs (dropS r.lo (Nat.sub r.hi r.lo) h)
theorem without_eq {β : Type} (cl : Nat) : ∀ (rs : List Rc) (h : T O) (k : T O → β), without cl rs h k = k (withoutS cl rs h)
  | [], _, _ => rfl
  | r :: rs, h, k => by
    simp only [without, withoutS]
    cases bit cl r.i with
    | true => exact without_eq cl rs h k
    | false => simp only; rw [dropN_eq]; exact without_eq cl rs _ k
theorem withoutS_get (cl : Nat) : ∀ (rs : List Rc) (h : T O) (j : Nat) (o : O), (withoutS cl rs h).get j = some o → h.get j = some o ∧ ∀ r ∈ rs, bit cl r.i = false → ¬ (r.lo ≤ j ∧ j < r.hi)
  | [], h, j, o, hj => ⟨hj, fun r hr => by simp at hr⟩
  | r :: rs, h, j, o, hj => by
    simp only [withoutS] at hj
    cases hb : bit cl r.i with
    | true =>
      rw [hb] at hj
      obtain ⟨h1, h2⟩ := withoutS_get cl rs h j o hj
      refine ⟨h1, fun r' hr' hb' => ?_⟩
      rcases List.mem_cons.1 hr' with rfl | hr'
      · rw [hb] at hb'; cases hb'
      · exact h2 r' hr' hb'
    | false =>
      rw [hb] at hj
      obtain ⟨h1, h2⟩ := withoutS_get cl rs _ j o hj
      obtain ⟨h3, h4⟩ := dropS_get _ _ _ _ _ h1
      refine ⟨h3, fun r' hr' hb' => ?_⟩
      rcases List.mem_cons.1 hr' with rfl | hr'
      · intro h5
        apply h4
        show r'.lo ≤ j ∧ j < r'.lo + (r'.hi - r'.lo)
        omega
      · exact h2 r' hr' hb'

theorem memN_iff {x : Nat} : ∀ l : List Nat, memN x l = true ↔ x ∈ l
  | [] => by simp [memN]
  | y :: r => by
    simp only [memN]
    split
    · rename_i h
      simp [Nat.eq_of_beq_eq_true h]
    · rename_i h
      have : x ≠ y := fun e => by subst e; simp at h
      simp [memN_iff r, this]
theorem disj_ok : ∀ (a b : List Nat), disj a b = true → ∀ x ∈ a, x ∉ b
  | [], b, _, x, h => by simp at h
  | y :: r, b, h, x, hx => by
    simp only [disj] at h
    split at h
    · cases h
    · rename_i hm
      rcases List.mem_cons.1 hx with rfl | hx
      · exact fun hb => by rw [(memN_iff b).2 hb] at hm; cases hm
      · exact disj_ok r b h x hx
theorem outs_ok {lo hi : Nat} : ∀ (l : List Nat), outs lo hi l = true → ∀ x ∈ l, ¬ (lo ≤ x ∧ x < hi)
  | [], _, x, h => by simp at h
  | y :: r, h, x, hx => by
    simp only [outs] at h
    split at h
    · cases h
    · rename_i hm
      rcases List.mem_cons.1 hx with rfl | hx
      · intro hc
        rw [Bool.and_eq_false_iff] at hm
        rcases hm with hm | hm
        · rw [← Bool.not_eq_true, Nat.ble_eq] at hm; exact hm hc.1
        · rw [← Bool.not_eq_true, Nat.blt_eq] at hm; exact hm hc.2
      · exact outs_ok r h x hx
theorem below_ok {nx : Nat} : ∀ (l : List Nat), below nx l = true → ∀ x ∈ l, x < nx
  | [], _, x, h => by simp at h
  | y :: r, h, x, hx => by
    simp only [below] at h
    split at h
    · rename_i hm
      rcases List.mem_cons.1 hx with rfl | hx
      · simpa [Nat.blt_eq] using hm
      · exact below_ok r h x hx
    · cases h
theorem geL_mem {bar x : Nat} : ∀ l : List Nat, x ∈ geL bar l ↔ x ∈ l ∧ bar ≤ x
  | [] => by simp [geL]
  | y :: r => by
    simp only [geL]
    split
    · rename_i h
      have h : bar ≤ y := by simpa using h
      simp only [List.mem_cons, geL_mem r]
      constructor
      · rintro (rfl | ⟨h1, h2⟩)
        · exact ⟨.inl rfl, h⟩
        · exact ⟨.inr h1, h2⟩
      · rintro ⟨rfl | h1, h2⟩
        · exact .inl rfl
        · exact .inr ⟨h1, h2⟩
    · rename_i h
      have h : ¬ bar ≤ y := by rw [← Nat.ble_eq, h]; simp
      simp only [List.mem_cons, geL_mem r]
      constructor
      · exact fun ⟨h1, h2⟩ => ⟨.inr h1, h2⟩
      · rintro ⟨rfl | h1, h2⟩
        · exact absurd h2 h
        · exact ⟨h1, h2⟩
theorem isNil_ok {l : List Nat} (h : isNil l = true) : l = [] := by cases l <;> simp_all [isNil]

theorem fits_ok {cl : Nat} {fp : Fp} : ∀ (rs : List Rc), fits cl fp rs = true → ∀ r ∈ rs, bit cl r.i = true ∨ pairOk fp r = true
  | [], _, r, h => by simp at h
  | r' :: rs, h, r, hr => by
    simp only [fits] at h
    cases hb : bit cl r'.i with
    | true =>
      rw [hb] at h
      rcases List.mem_cons.1 hr with rfl | hr
      · exact .inl hb
      · exact fits_ok rs h r hr
    | false =>
      rw [hb] at h
      simp only at h
      split at h
      · rename_i hp
        rcases List.mem_cons.1 hr with rfl | hr
        · exact .inr hp
        · exact fits_ok rs h r hr
      · cases h

/-! ### Who touches what, in whatever order -/

section
variable {tch Rd cl : Nat → Nat → Prop} {D : Nat → Prop} {len i x m : Nat}

theorem claimA (h2 : ∀ j i, j < i → i < len → tch j x → Rd i x → cl i j) (h3 : ∀ j i, j < i → i < len → Rd j x → tch i x → cl i j) (hD : ∀ a b, D a → cl a b → D b) (hi : ¬ D i) (hil : i < len) (hcl : ∀ b, cl i b → D b)
    (hR : Rd i x) (hm : ∀ t, t < len → tch t x → (t < m ↔ D t)) : ∀ t, t < len → tch t x → (t < m ↔ t < i) := by
  intro t ht htx
  rw [hm t ht htx]
  constructor
  · intro hd
    rcases Nat.lt_trichotomy t i with h | h | h
    · exact h
    · subst h; exact absurd hd hi
    · exact absurd (hD t i hd (h3 i t h ht hR htx)) hi
  · exact fun h => hcl t (h2 t i h hil htx hR)

theorem claimB (h1 : ∀ j i, j < i → i < len → tch j x → tch i x → cl i j) (hD : ∀ a b, D a → cl a b → D b) (hi : ¬ D i) (hil : i < len) (hcl : ∀ b, cl i b → D b) (hix : tch i x) :
    ∀ t, t < len → tch t x → (t < i + 1 ↔ D t ∨ t = i) := by
  intro t ht htx
  constructor
  · intro h
    rcases Nat.lt_or_ge t i with h | h
    · exact .inl (hcl t (h1 t i h hil htx hix))
    · exact .inr (by omega)
  · rintro (hd | rfl)
    · rcases Nat.lt_trichotomy t i with h | h | h
      · omega
      · omega
      · exact absurd (hD t i hd (h1 i t h ht hix htx)) hi
    · omega

theorem sameRange {α : Type} {g : Nat → α} (same : ∀ t, t < len → ¬ tch t x → g (t + 1) = g t) : ∀ (n a b : Nat), a + n = b → b ≤ len → (∀ t, t < len → tch t x → (t < a ↔ t < b)) → g a = g b
  | 0, a, b, h, _, _ => by rw [← h]; rfl
  | n + 1, a, b, h, hb, hh => by
    have h1 : ¬ tch a x := fun ht => by have := (hh a (by omega) ht); omega
    rw [← same a (by omega) h1]
    exact sameRange same n (a + 1) b (by omega) hb fun t ht htx => by
      have := hh t ht htx
      have hne : t ≠ a := fun e => by subst e; exact h1 htx
      omega

theorem sameRange' {α : Type} {g : Nat → α} (same : ∀ t, t < len → ¬ tch t x → g (t + 1) = g t) {a b : Nat} (ha : a ≤ len) (hb : b ≤ len) (hh : ∀ t, t < len → tch t x → (t < a ↔ t < b)) : g a = g b := by
  rcases Nat.le_total a b with h | h
  · exact sameRange same (b - a) a b (by omega) hb hh
  · exact (sameRange same (a - b) b a (by omega) ha (fun t ht htx => (hh t ht htx).symm)).symm
end
end CX
