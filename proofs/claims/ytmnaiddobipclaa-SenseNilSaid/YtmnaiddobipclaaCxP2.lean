/-
  CX: operations that look at no memory do what the executor says (2).
-/
import Derived.Test.YtmnaiddobipclaaCxP
namespace CX
open Go

theorem take_eq : ∀ (n : Nat) (l : List V), take n l = l.take n
  | 0, _ => by simp [take]
  | _ + 1, [] => by simp [take]
  | n + 1, x :: l => by simp [take, take_eq n l]
theorem drop_eq : ∀ (n : Nat) (l : List V), drop n l = l.drop n
  | 0, _ => by simp [drop]
  | _ + 1, [] => by simp [drop]
  | n + 1, x :: l => by simp [drop, drop_eq n l]

theorem packR_ok {ρ : Nm} {n : Nat} {agg : Bool} {l : List V} {x : List Value} {k : V → R} {r : Ex × St} (hl : RvL ρ n l x) (h : packR agg l k = some r) :
    ∃ v u, k v = some r ∧ Rv ρ n v u ∧ (agg = true → u = .agg x.toArray) ∧ (agg = false → x = [u] ∧ l = [v]) := by
  cases agg with
  | true =>
    simp only [packR] at h
    exact ⟨_, .agg x.toArray, h, by simp only [Rv]; exact ⟨x, hl, rfl⟩, fun _ => rfl, fun h => by cases h⟩
  | false =>
    simp only [packR] at h
    split at h
    · rename_i v
      match x, hl with
      | [u], hl =>
        simp only [RvL] at hl
        exact ⟨v, u, h, hl.1, (fun h => by cases h), (fun _ => ⟨rfl, rfl⟩)⟩
      | [], hl => simp [RvL] at hl
      | _ :: _ :: _, hl => simp [RvL] at hl
    · cases h

theorem evL_ok {ρ : Nm} {n : Nat} {ev : Operand → Option V} {ρe : Operand → Value} : ∀ (l : List Operand) {k : List V → R} {r : Ex × St}, (∀ x ∈ l, ∀ v, ev x = some v → Rv ρ n v (ρe x)) → evL ev l k = some r →
    ∃ vs, k vs = some r ∧ RvL ρ n vs (l.map ρe)
  | [], k, r, _, h => ⟨[], h, by simp [RvL]⟩
  | x :: l, k, r, hev, h => by
    simp only [evL] at h
    split at h
    · rename_i v hv
      obtain ⟨vs, h1, h2⟩ := evL_ok l (fun y hy => hev y (by simp [hy])) h
      exact ⟨_, h1, by simp only [List.map_cons, RvL]; exact ⟨hev x (by simp) v hv, h2⟩⟩
    · cases h

theorem run_bounds {P : Program} {w : World} {isSl : Bool} {ln cp l r : Nat} {lo hi : Option Value} (hlo : lo = none ∧ l = 0 ∨ ∃ k, lo = some (.int k (l : Int))) (hhi : hi = none ∧ r = ln ∨ ∃ k, hi = some (.int k (r : Int)))
    (h1 : l ≤ r) (h2 : r ≤ cp) : (Instr.sliceBounds isSl ln cp lo hi none).run P w = .ok (l, r, cp) w := by
  have b : ∀ (k : IntKind) (x y : Nat) (code : BoundsCode), x ≤ y → (Instr.sliceBound (.int k (x : Int)) y code).run P w = .ok x w := by
    intro k x y code h
    have h' : (0 : Int) ≤ (x : Int) ∧ (x : Int) ≤ (y : Int) := by omega
    simp only [Instr.sliceBound, asIntOf, Sem.run_bind, Sem.run_pure, Result.andThen_ok]
    rw [if_pos h']
    simp
  rcases hlo with ⟨rfl, rfl⟩ | ⟨k, rfl⟩ <;> rcases hhi with ⟨rfl, rfl⟩ | ⟨k', rfl⟩ <;> simp [Instr.sliceBounds, b, h1, h2]

section
variable {P : Program} {E : Env} (hE : EnvOk E P) {ρ : Nm} {n : Nat}
include hE

theorem elem_ok {t es : Nat} (h : elemSize E t = some es) : ∃ e ety i z, P.underlying t = some (.slice e) ∧ E.T e = some ety ∧ kindOf E t = .slice e ∧ ety.size = es ∧ 0 < es ∧ P.info? e = some i ∧ i.size = es ∧ i.bytes = ety.bytes ∧ i.zero = some z ∧ (∀ ρ n, RvL ρ n ety.zero z.cells.toList) := by
  unfold elemSize at h
  split at h
  · rename_i e hk
    obtain ⟨d, hd, hkd⟩ := und_of hE hk (by simp)
    simp only [KdOk] at hkd
    subst hkd
    split at h
    · rename_i ety hety
      obtain ⟨i, z, hi, hs, hb, hz, hzr, _⟩ := (hE.T _ _ hety).info
      split at h
      · cases h
      · rename_i m hm
        simp only [Option.some.injEq] at h
        exact ⟨e, ety, i, z, hd, hety, hk, by omega, by omega, hi, by omega, hb, hz, hzr⟩
    · cases h
  · cases h

omit hE in
theorem bnd_ok {lo : Option V} {lo' : Option Value} {d l : Nat} (hlo : ∀ v, lo = some v → ∃ u, lo' = some u ∧ Rv ρ n v u) (hlo0 : lo = none → lo' = none) (h : bnd lo d = some l) : lo' = none ∧ l = d ∨ ∃ k, lo' = some (.int k (l : Int)) := by
  cases lo with
  | none => simp only [bnd, Option.some.injEq] at h; exact .inl ⟨hlo0 rfl, h.symm⟩
  | some v =>
    obtain ⟨u, hu, hr⟩ := hlo v rfl
    cases v <;> simp only [bnd] at h <;> try cases h
    rename_i k m
    simp only [Rv] at hr
    subst hr
    cases m with
    | ofNat m => simp only [Option.some.injEq] at h; subst h; exact .inr ⟨_, hu⟩
    | negSucc m => cases h

theorem sliceX_ok {t es : Nat} (hes : elemSize E t = some es) {x : V} {u : Value} (hx : Rv ρ n x u) {lo hi : Option V} {lo' hi0 : Option Value}
    (hlo : ∀ v, lo = some v → ∃ u, lo' = some u ∧ Rv ρ n v u) (hlo0 : lo = none → lo' = none) (hhi : ∀ v, hi = some v → ∃ u, hi0 = some u ∧ Rv ρ n v u) (hhi0 : hi = none → hi0 = none)
    {k : V → R} {r : Ex × St} (h : sliceX es x lo hi k = some r) : ∃ v u', k v = some r ∧ Rv ρ n v u' ∧ ∀ w, (Instr.sliceAt t u lo' hi0 none).run P w = .ok u' w := by
  obtain ⟨e, ety, i, z, hu, _, _, _, hpos, hi', hs, _⟩ := elem_ok hE hes
  have bl : ∀ l, bnd lo 0 = some l → lo' = none ∧ l = 0 ∨ ∃ k, lo' = some (.int k (l : Int)) := fun l h => bnd_ok hlo hlo0 h
  have bh : ∀ ln l, bnd hi ln = some l → hi0 = none ∧ l = ln ∨ ∃ k, hi0 = some (.int k (l : Int)) := fun ln l h => bnd_ok hhi hhi0 h
  unfold sliceX at h
  split at h
  · rename_i id es' off ln cap
    split at h
    · rename_i l rr he hl hr
      have he : es = es' := by simpa using he
      subst he
      have hl := bl _ hl
      have hr := bh _ _ hr
      split at h
      · rename_i hc
        simp only [Bool.and_eq_true, Nat.ble_eq] at hc
        obtain ⟨h1, h2⟩ := hc
        rw [fN_eq] at h
        have hsub : Nat.sub rr l = rr - l := rfl
        have hmul : Nat.add off (Nat.mul l es) = off + l * es := rfl
        cases cap with
        | some c =>
          simp only [Rv] at hx
          obtain ⟨hid, _, hln, L, hL, rfl⟩ := hx
          simp only at h h2
          have hrun : ∀ w, (Instr.sliceAt t (.slice (some ⟨L.b, L.base + off, none⟩) ln c) lo' hi0 none).run P w =
              .ok (.slice (if c = l then some ⟨L.b, L.base + off, none⟩ else some ⟨L.b, L.base + off + l * es, none⟩) (rr - l) (c - l)) w := by
            intro w
            simp only [Instr.sliceAt, Sem.run_bind, run_underlying hu, Result.andThen_ok, Instr.slice, run_bounds hl hr h1 h2, run_sizeOf' hi', hs, Sem.run_pure, Option.map_some, add_at]
          split at h
          · rename_i hcl
            have hcl : c = l := Nat.eq_of_beq_eq_true hcl
            refine ⟨_, .slice (some ⟨L.b, L.base + off, none⟩) (rr - l) 0, h, ?_, fun w => ?_⟩
            · simp only [Rv]
              exact ⟨hid, hpos, by rw [hsub]; omega, L, hL, by rw [hsub]⟩
            · rw [hrun w, if_pos hcl, hcl, Nat.sub_self]
          · rename_i hcl
            have hcl : c ≠ l := fun e => by subst e; simp at hcl
            rw [fN_eq, fN_eq] at h
            refine ⟨_, .slice (some ⟨L.b, L.base + off + l * es, none⟩) (rr - l) (c - l), h, ?_, fun w => ?_⟩
            · simp only [Rv]
              refine ⟨hid, hpos, ?_, L, hL, ?_⟩
              · rw [hsub, show Nat.sub c l = c - l from rfl]; omega
              · rw [hsub, hmul, show Nat.sub c l = c - l from rfl, Nat.add_assoc]
            · rw [hrun w, if_neg hcl]
        | none =>
          simp only [Rv] at hx
          obtain ⟨hid, _, L, c, off', hL, rfl, hln, hbs, hoff⟩ := hx
          simp only at h h2
          have h2' : rr ≤ c := by omega
          rw [fN_eq] at h
          have hrun : ∀ w, (Instr.sliceAt t (.slice (some ⟨L.b, off', none⟩) ln c) lo' hi0 none).run P w =
              .ok (.slice (if c = l then some ⟨L.b, off', none⟩ else some ⟨L.b, off' + l * es, none⟩) (rr - l) (c - l)) w := by
            intro w
            simp only [Instr.sliceAt, Sem.run_bind, run_underlying hu, Result.andThen_ok, Instr.slice, run_bounds hl hr h1 h2', run_sizeOf' hi', hs, Sem.run_pure, Option.map_some, add_at]
          have hmulc : l * es + (c - l) * es = c * es := by rw [← Nat.add_mul]; congr 1; omega
          by_cases hcl : c = l
          · refine ⟨_, .slice (some ⟨L.b, off', none⟩) (rr - l) 0, h, ?_, fun w => by rw [hrun w, if_pos hcl, hcl, Nat.sub_self]⟩
            simp only [Rv]
            exact ⟨hid, hpos, L, 0, off', hL, by rw [hsub], by rw [hsub]; omega, by rw [hmul, ← hbs, hcl]; omega, .inr rfl⟩
          · have hoff' : off' = L.base + off := by
              rcases hoff with h | h
              · exact h
              · omega
            refine ⟨_, .slice (some ⟨L.b, off' + l * es, none⟩) (rr - l) (c - l), h, ?_, fun w => by rw [hrun w, if_neg hcl]⟩
            simp only [Rv]
            refine ⟨hid, hpos, L, c - l, off' + l * es, hL, by rw [hsub], by rw [hsub]; omega, by rw [hmul]; omega, .inl ?_⟩
            rw [hmul]; omega
      · cases h
    · cases h
  · simp only [Rv] at hx
    subst hx
    split at h
    · rename_i hl hr
      have hl := bl _ hl
      have hr := bh _ _ hr
      refine ⟨_, .slice none 0 0, h, by simp only [Rv], fun w => ?_⟩
      have := run_bounds (P := P) (w := w) (isSl := true) (ln := 0) (cp := 0) hl hr (Nat.le_refl _) (Nat.le_refl _)
      simp [Instr.sliceAt, run_underlying hu, Instr.slice, this, run_sizeOf' hi']
    · cases h
  · cases h

/-- a slice of an array that lies at an address -/
theorem slicePtr_ok {t m e : Nat} (hk : kindOf E t = .arr m e) {ety : Ty} (hety : E.T e = some ety) {L : Loc} {off : Nat} {lo' hi' : Option Value} {l r : Nat} (hlo : lo' = none ∧ l = 0 ∨ ∃ k, lo' = some (.int k (l : Int)))
    (hhi : hi' = none ∧ r = m ∨ ∃ k, hi' = some (.int k (r : Int))) (h1 : l ≤ r) (h2 : r ≤ m) :
    ∀ w, (Instr.sliceAt t (.pointer (some ⟨L.b, L.base + off, none⟩)) lo' hi' none).run P w =
      .ok (.slice (some (if m = l then ⟨L.b, L.base + off, none⟩ else ⟨L.b, L.base + off + l * ety.size, none⟩)) (r - l) (m - l)) w := by
  intro w
  obtain ⟨d, hd, hkd⟩ := und_of hE hk (by simp)
  simp only [KdOk] at hkd
  subst hkd
  obtain ⟨i, z, hi, hs, _⟩ := (hE.T _ _ hety).info
  simp only [Instr.sliceAt, Sem.run_bind, run_underlying hd, Result.andThen_ok, Instr.sureAddr, Sem.run_pure, run_bounds hlo hhi h1 h2, run_sizeOf' hi, hs, add_at]


theorem sliceA_ok {t : Nat} {x : V} {u : Value} (hx : Rv ρ n x u) {lo hi : Option V} {lo' hi0 : Option Value}
    (hlo : ∀ v, lo = some v → ∃ u, lo' = some u ∧ Rv ρ n v u) (hlo0 : lo = none → lo' = none) (hhi : ∀ v, hi = some v → ∃ u, hi0 = some u ∧ Rv ρ n v u) (hhi0 : hi = none → hi0 = none)
    {k : V → R} {r : Ex × St} (h : sliceA E t x lo hi k = some r) : ∃ v u', k v = some r ∧ Rv ρ n v u' ∧ ∀ w, (Instr.sliceAt t u lo' hi0 none).run P w = .ok u' w := by
  unfold sliceA at h
  split at h
  · rename_i id off
    simp only [Rv] at hx
    obtain ⟨hid, L, hL, rfl⟩ := hx
    split at h
    · rename_i m e hk
      split at h
      · rename_i ety l rr hety hl hr
        split at h
        · rename_i hc hz
          simp only [Bool.and_eq_true, Nat.ble_eq] at hc
          have hz : 0 < ety.size := by
            rcases Nat.eq_zero_or_pos ety.size with h0 | h0
            · rw [h0] at hz; simp at hz
            · exact h0
          have hrun := slicePtr_ok hE (P := P) hk hety (L := L) (off := off) (bnd_ok hlo hlo0 hl) (bnd_ok hhi hhi0 hr) hc.1 hc.2
          rw [fN_eq] at h
          have hsub : ∀ a b, Nat.sub a b = a - b := fun _ _ => rfl
          split at h
          · rename_i hml
            have hml : m = l := Nat.eq_of_beq_eq_true hml
            refine ⟨_, .slice (some ⟨L.b, L.base + off, none⟩) (rr - l) 0, h, ?_, fun w => ?_⟩
            · simp only [Rv, hsub]
              exact ⟨hid, hz, by omega, L, hL, rfl⟩
            · rw [hrun w, if_pos hml, hml, Nat.sub_self]
          · rename_i hml
            have hml : m ≠ l := fun e => by subst e; simp at hml
            rw [fN_eq, fN_eq] at h
            refine ⟨_, .slice (some ⟨L.b, L.base + off + l * ety.size, none⟩) (rr - l) (m - l), h, ?_, fun w => ?_⟩
            · simp only [Rv, hsub]
              refine ⟨hid, hz, by omega, L, hL, ?_⟩
              rw [show Nat.add off (Nat.mul l ety.size) = off + l * ety.size from rfl, Nat.add_assoc]
            · rw [hrun w, if_neg hml]
        · cases h
      · cases h
    · cases h
  · split at h
    · rename_i es hes
      exact sliceX_ok hE hes hx hlo hlo0 hhi hhi0 h
    · cases h

omit hE in
theorem evO_ok {ev : Operand → Option V} {ρe : Operand → Value} {x : Option Operand} (hev : ∀ y ∈ x.toList, ∀ v, ev y = some v → Rv ρ n v (ρe y)) {o : Option V} (h : evO ev x = some o) :
    (∀ v, o = some v → ∃ u, x.map ρe = some u ∧ Rv ρ n v u) ∧ (o = none → x.map ρe = none) := by
  cases x with
  | none =>
    simp only [evO, Option.some.injEq] at h
    subst h
    exact ⟨(fun v h => by cases h), (fun _ => rfl)⟩
  | some y =>
    simp only [evO] at h
    split at h
    · rename_i v hv
      simp only [Option.some.injEq] at h
      subst h
      refine ⟨fun w hw => ?_, (fun h => by cases h)⟩
      simp only [Option.some.injEq] at hw
      subst hw
      exact ⟨ρe y, rfl, hev y (by simp) v hv⟩
    · cases h

theorem fieldInfo {t i o ft : Nat} {fs : List (Nat × Nat)} (hk : kindOf E t = .struct fs) (hi : nth fs i = some (o, ft)) {ty : Ty} (hty : E.T ft = some ty) :
    ∃ fields f j, P.underlying t = some (.struct fields) ∧ fields[i]? = some f ∧ f.offset = o ∧ f.type = ft ∧ P.info? ft = some j ∧ j.size = ty.size := by
  obtain ⟨d, hd, hkd⟩ := und_of hE hk (by simp)
  simp only [KdOk] at hkd
  obtain ⟨fields, rfl, hmap, _⟩ := hkd
  rw [nth_eq, ← hmap, List.getElem?_map] at hi
  cases hf : fields.toList[i]? with
  | none => rw [hf] at hi; cases hi
  | some f =>
    rw [hf] at hi
    simp only [Option.map_some, Option.some.injEq, Prod.mk.injEq] at hi
    obtain ⟨j, _, hj, hjs, _⟩ := (hE.T _ _ hty).info
    exact ⟨fields, f, j, hd, by simpa using hf, hi.1, hi.2, hj, hjs⟩

/-- A part of a value. -/
theorem part_ok {t : Nat} {ty : Ty} (hty : E.T t = some ty) {l : List V} {x : List Value} (hl : RvL ρ n l x) {off : Nat} {k : V → R} {r : Ex × St}
    (h : packR ty.agg ((l.drop off).take ty.size) k = some r) : ∃ v u, k v = some r ∧ Rv ρ n v u ∧ ∀ w, (Go.part t x.toArray off).run P w = .ok u w := by
  obtain ⟨i, z, hi, hs, _⟩ := (hE.T _ _ hty).info
  obtain ⟨d, hd, hag, _⟩ := (hE.T _ _ hty).und
  have hlen := hl.length
  obtain ⟨v, u, h1, h2, h3, h4⟩ := packR_ok ((hl.drop off).take ty.size) h
  refine ⟨v, u, h1, h2, fun w => ?_⟩
  simp only [Go.part, Sem.run_bind, run_isAgg' hd, Result.andThen_ok, hag]
  cases ha : ty.agg with
  | true =>
    rw [if_pos rfl]
    simp only [Sem.run_bind, run_sizeOf' hi, Result.andThen_ok, Sem.run_pure, h3 ha, hs]
    congr 2
    apply Array.ext'
    simp
  | false =>
    obtain ⟨h5, _⟩ := h4 ha
    have h6 : x[off]? = some u := by
      have := congrArg (fun l => l[0]?) h5
      simp only [List.getElem?_take, List.getElem?_drop, List.getElem?_cons_zero] at this
      split at this
      · simpa using this
      · cases this
    simp [h6]

omit hE in
theorem minmax_ok (f : Int → Int → Bool) (g : Value → Value → Sem Value) (hg : ∀ k x y w, (g (.int k x) (.int k y)).run P w = .ok (.int k (if f y x then y else x)) w) :
    ∀ (l : List V) (kd : IntKind) (m : Int) (us : List Value) {k : V → R} {r : Ex × St}, RvL ρ n l us → minmax f kd m l k = some r →
      ∃ v u, k v = some r ∧ Rv ρ n v u ∧ ∀ w, (us.foldlM g (.int kd m)).run P w = .ok u w
  | [], kd, m, [], k, r, _, h => ⟨_, .int kd m, h, by simp only [Rv], fun w => by simp⟩
  | v :: l, kd, m, u :: us, k, r, hr, h => by
    simp only [RvL] at hr
    cases v <;> simp only [minmax] at h <;> try cases h
    rename_i kd' q
    have hr1 := hr.1
    simp only [Rv] at hr1
    subst hr1
    split at h
    · rename_i hk
      have := kindEq_ok hk
      subst this
      split at h
      · rename_i hf
        obtain ⟨v, u, h1, h2, h3⟩ := minmax_ok f g hg l kd q us hr.2 h
        exact ⟨v, u, h1, h2, fun w => by rw [List.foldlM_cons, Sem.run_bind, hg, hf, Result.andThen_ok, if_pos rfl]; exact h3 w⟩
      · rename_i hf
        obtain ⟨v, u, h1, h2, h3⟩ := minmax_ok f g hg l kd m us hr.2 h
        exact ⟨v, u, h1, h2, fun w => by rw [List.foldlM_cons, Sem.run_bind, hg, hf, Result.andThen_ok, if_neg (by simp)]; exact h3 w⟩
    · cases h
  | [], _, _, _ :: _, _, _, h, _ => by simp [RvL] at h
  | _ :: _, _, _, [], _, _, h, _ => by simp [RvL] at h

omit hE in
theorem ilt_eq (a b : Int) : ilt a b = decide (a < b) := by
  simp only [ilt, ile_eq]
  by_cases h : a < b
  · simp [h, Int.not_le.2 h]
  · simp [h, Int.not_lt.1 h]
omit hE in
theorem igt_eq (a b : Int) : igt a b = decide (b < a) := by
  simp only [igt, ile_eq]
  by_cases h : b < a
  · simp [h, Int.not_le.2 h]
  · simp [h, Int.not_lt.1 h]

omit hE in
theorem run_builtin {o : Oper} {c : Call} {b : Builtin} (ho : o.op = .call c) (hc : c.callee = .builtin b) (ρe : Operand → Value) :
    ∃ cs, ∀ w, (execOp ρe o).run P w = (Go.builtin b c.argTypes o.type cs (c.args.map ρe)).run P w :=
  ⟨_, fun w => by simp [execOp, ho, resolve, hc, invoke]; rfl⟩

/-- **What looks at no memory.** -/
theorem opP_ok {o : Oper} {ev : Operand → Option V} {ρe : Operand → Value} (hev : ∀ x ∈ o.op.operands, ∀ v, ev x = some v → Rv ρ n v (ρe x))
    {k : V → R} {r : Ex × St} (h : opP E ev o.op k = some r) : ∃ v u, k v = some r ∧ Rv ρ n v u ∧ ∀ w, (execOp ρe o).run P w = .ok (.value u) w := by
  cases ho : o.op with
  | move x =>
    rw [ho] at h hev
    simp only [opP] at h
    split at h
    · rename_i v hv
      exact ⟨v, ρe x, h, hev x (by simp [Op.operands]) v hv, fun w => by simp [execOp, ho]⟩
    · cases h
  | assign x =>
    rw [ho] at h hev
    simp only [opP] at h
    split at h
    · rename_i v hv
      exact ⟨v, ρe x, h, hev x (by simp [Op.operands]) v hv, fun w => by simp [execOp, ho]⟩
    · cases h
  | pick c a b =>
    rw [ho] at h hev
    simp only [opP] at h
    split at h
    · rename_i hc
      have hc := hev c (by simp [Op.operands]) _ hc
      simp only [Rv] at hc
      split at h
      · rename_i v hv
        exact ⟨v, ρe a, h, hev a (by simp [Op.operands]) v hv, fun w => by simp [execOp, ho, hc, asBool]⟩
      · cases h
    · rename_i hc
      have hc := hev c (by simp [Op.operands]) _ hc
      simp only [Rv] at hc
      split at h
      · rename_i v hv
        exact ⟨v, ρe b, h, hev b (by simp [Op.operands]) v hv, fun w => by simp [execOp, ho, hc, asBool]⟩
      · cases h
    · cases h
  | build t ps =>
    rw [ho] at h hev
    refine build_ok hE ho (fun p hp v hv => hev p.2 ?_ v hv) h
    simp only [Op.operands, List.mem_toArray, List.mem_map]
    exact ⟨p, hp, rfl⟩
  | nilCheck x =>
    rw [ho] at h hev
    simp only [opP] at h
    split at h
    · rename_i id off hv
      have hr := hev x (by simp [Op.operands]) _ hv
      have hr0 := hr
      simp only [Rv] at hr
      obtain ⟨_, L, _, hu⟩ := hr
      exact ⟨_, ρe x, h, hr0, fun w => by simp [execOp, ho, hu]⟩
    · rename_i f a b hv
      have hr := hev x (by simp [Op.operands]) _ hv
      have hr0 := hr
      simp only [Rv] at hr
      obtain ⟨_, _, _, _, hu⟩ := hr
      exact ⟨_, ρe x, h, hr0, fun w => by simp [execOp, ho, hu]⟩
    · cases h
  | binOp op t x y ty =>
    rw [ho] at h hev
    simp only [opP] at h
    split at h
    · rename_i a b ha hb
      exact bin_ok hE ho (hev x (by simp [Op.operands]) _ ha) (hev y (by simp [Op.operands]) _ hb) h
    · cases h
  | unOp op t x =>
    rw [ho] at h hev
    simp only [opP] at h
    split at h
    · rename_i a ha
      exact un_ok ho (hev x (by simp [Op.operands]) _ ha) h
    · cases h
  | makeInterface t x =>
    rw [ho] at h hev
    simp only [opP] at h
    split at h
    · rename_i a ha
      split at h
      · rename_i ty hty
        obtain ⟨d, hd, _, hkd⟩ := (hE.T _ _ hty).und
        split at h
        · cases h
        · rename_i hni
          refine ⟨_, .iface t (ρe x), h, by simp only [Rv]; exact ⟨_, hev x (by simp [Op.operands]) _ ha, rfl⟩, fun w => ?_⟩
          have hd' : ∀ ms, d ≠ .interface ms := by
            intro ms hms
            subst hms
            generalize ty.kd = kk at hkd hni
            cases kk <;> simp only [KdOk] at hkd <;> first | exact hkd ms rfl | (cases hkd; done) | (obtain ⟨_, hc, _⟩ := hkd; cases hc; done) | exact hni rfl
          simp only [execOp, ho, Instr.makeInterface, Sem.run_bind, run_underlying hd, Result.andThen_ok]
          cases d <;> first | exact absurd rfl (hd' _) | simp
      · cases h
    · cases h
  | makeFunc f a b =>
    rw [ho] at h hev
    simp only [opP] at h
    split at h
    · rename_i f'
      obtain ⟨va, h1, h2⟩ := evL_ok (ρ := ρ) (n := n) (ρe := ρe) a.toList (fun x hx => hev x (by simp only [Op.operands, Array.mem_append]; exact .inl (by simpa using hx))) h
      obtain ⟨vb, h3, h4⟩ := evL_ok (ρ := ρ) (n := n) (ρe := ρe) b.toList (fun x hx => hev x (by simp only [Op.operands, Array.mem_append]; exact .inr (by simpa using hx))) h1
      refine ⟨_, .func (.func f') (a.map ρe) (b.map ρe), h3, by simp only [Rv]; exact ⟨_, _, h2, h4, by congr 1 <;> (apply Array.ext'; simp)⟩, fun w => by simp [execOp, ho, Instr.makeFunc]⟩
    · cases h
  | slice t x lo hi mx =>
    rw [ho] at h hev
    cases mx with
    | some m => simp [opP] at h
    | none =>
      simp only [opP] at h
      split at h
      · rename_i a l hh ha hl hh'
        obtain ⟨l1, l2⟩ := evO_ok (ρ := ρ) (n := n) (ρe := ρe) (fun y hy => hev y (by simp [Op.operands]; simp at hy; simp [hy])) hl
        obtain ⟨h1, h2⟩ := evO_ok (ρ := ρ) (n := n) (ρe := ρe) (fun y hy => hev y (by simp [Op.operands]; simp at hy; simp [hy])) hh'
        obtain ⟨v, u, g1, g2, g3⟩ := sliceA_ok hE (hev x (by simp [Op.operands]) _ ha) l1 l2 h1 h2 h
        exact ⟨v, u, g1, g2, fun w => by simp [execOp, ho, g3 w]⟩
      · cases h
  | fieldAddr t x i =>
    rw [ho] at h hev
    simp only [opP] at h
    split at h
    · rename_i fs id off hk hx
      split at h
      · rename_i o' ft hi
        split at h
        · rename_i ty hty
          split at h
          · cases h
          · rename_i hsz
            rw [fN_eq] at h
            obtain ⟨fields, f, j, hu, hf, hfo, hft, hj, hjs⟩ := fieldInfo hE hk hi hty
            have hr := hev x (by simp [Op.operands]) _ hx
            simp only [Rv] at hr
            obtain ⟨hid, L, hL, hu'⟩ := hr
            refine ⟨_, .pointer (some ⟨L.b, L.base + off + o', none⟩), h, by simp only [Rv]; exact ⟨hid, L, hL, by rw [show Nat.add off o' = off + o' from rfl, Nat.add_assoc]⟩, fun w => ?_⟩
            have hplace : ∀ a : Addr, (fieldPlace a f).run P w = .ok (a.add f.offset) w := by
              intro a
              have hj0 : j.size ≠ 0 := by rw [hjs]; exact fun e => hsz e
              simp [fieldPlace, hft, run_sizeOf' hj, hj0]
            simp [execOp, ho, hu', Instr.fieldAt, run_underlying hu, hf, Instr.sureAddr, hplace, hfo, add_at]
        · cases h
      · cases h
    · cases h
  | field t x i =>
    rw [ho] at h hev
    simp only [opP] at h
    split at h
    · rename_i fs l hk hx
      split at h
      · rename_i o' ft hi
        split at h
        · rename_i ty hty
          split at h
          · rename_i hle
            rw [fL_eq, take_eq, drop_eq] at h
            obtain ⟨fields, f, j, hu, hf, hfo, hft, hj, hjs⟩ := fieldInfo hE hk hi hty
            have hr := hev x (by simp [Op.operands]) _ hx
            simp only [Rv] at hr
            obtain ⟨xs, hxs, hu'⟩ := hr
            obtain ⟨v, u, g1, g2, g3⟩ := part_ok hE hty hxs h
            refine ⟨v, u, g1, g2, fun w => ?_⟩
            simp [execOp, ho, hu', Instr.field, run_underlying hu, hf, asAgg, hft, hfo, g3 w]
          · cases h
        · cases h
      · cases h
    · cases h
  | indexAddr t x i =>
    rw [ho] at h hev
    simp only [opP] at h
    split at h
    · rename_i e id es off ln c ki m hk hx hi
      obtain ⟨d, hd, hkd⟩ := und_of hE hk (by simp)
      simp only [KdOk] at hkd
      subst hkd
      have hri := hev i (by simp [Op.operands]) _ hi
      simp only [Rv] at hri
      have hr := hev x (by simp [Op.operands]) _ hx
      split at h
      · rename_i ety hety
        obtain ⟨j, _, hj, hjs, _⟩ := (hE.T _ _ hety).info
        split at h
        · rename_i hc
          simp only [Bool.and_eq_true, Nat.beq_eq, Nat.blt_eq] at hc
          obtain ⟨hes, hm⟩ := hc
          rw [fN_eq] at h
          have hs : ∃ L c', id < n ∧ ρ id = some L ∧ ρe x = .slice (some ⟨L.b, L.base + off, none⟩) ln c' := by
            cases c with
            | none =>
              simp only [Rv] at hr
              obtain ⟨h0, _, L, c', o', h1, h2, h3, _, h5⟩ := hr
              have : o' = L.base + off := by
                rcases h5 with h5 | h5
                · exact h5
                · omega
              exact ⟨L, c', h0, h1, by rw [h2, this]⟩
            | some c =>
              simp only [Rv] at hr
              obtain ⟨h0, _, _, L, h1, h2⟩ := hr
              exact ⟨L, c, h0, h1, h2⟩
          obtain ⟨L, c', hid, hL, hu'⟩ := hs
          refine ⟨_, .pointer (some ⟨L.b, L.base + off + m * es, none⟩), h, by simp only [Rv]; exact ⟨hid, L, hL, by rw [show Nat.add off (Nat.mul m es) = off + m * es from rfl, Nat.add_assoc]⟩, fun w => ?_⟩
          have hm' : (0 : Int) ≤ Int.ofNat m ∧ Int.ofNat m < (ln : Int) := ⟨Int.natCast_nonneg _, Int.ofNat_lt.2 hm⟩
          simp only [execOp, ho, hu', hri, Instr.indexAt, asIntOf, Sem.run_bind, Sem.run_pure, Result.andThen_ok, run_underlying hd]
          rw [if_pos hm']
          simp [run_sizeOf' hj, hjs, hes, add_at]
        · cases h
      · cases h
    · rename_i ln e id off ki m hk hx hi
      obtain ⟨d, hd, hkd⟩ := und_of hE hk (by simp)
      simp only [KdOk] at hkd
      subst hkd
      have hri := hev i (by simp [Op.operands]) _ hi
      simp only [Rv] at hri
      have hr := hev x (by simp [Op.operands]) _ hx
      simp only [Rv] at hr
      obtain ⟨hid, L, hL, hu'⟩ := hr
      split at h
      · rename_i ety hety
        obtain ⟨j, _, hj, hjs, _⟩ := (hE.T _ _ hety).info
        split at h
        · rename_i hm
          rw [Nat.blt_eq] at hm
          rw [fN_eq] at h
          refine ⟨_, .pointer (some ⟨L.b, L.base + off + m * ety.size, none⟩), h, by simp only [Rv]; exact ⟨hid, L, hL, by rw [show Nat.add off (Nat.mul m ety.size) = off + m * ety.size from rfl, Nat.add_assoc]⟩, fun w => ?_⟩
          have hm' : (0 : Int) ≤ Int.ofNat m ∧ Int.ofNat m < (ln : Int) := ⟨Int.natCast_nonneg _, Int.ofNat_lt.2 hm⟩
          simp only [execOp, ho, hu', hri, Instr.indexAt, asIntOf, Sem.run_bind, Sem.run_pure, Result.andThen_ok, run_underlying hd, Instr.sureAddr]
          rw [if_pos hm']
          simp [run_sizeOf' hj, hjs, add_at]
        · cases h
      · cases h
    · cases h
  | index t x i =>
    rw [ho] at h hev
    simp only [opP] at h
    split at h
    · rename_i ln e l ki m hk hx hi
      obtain ⟨d, hd, hkd⟩ := und_of hE hk (by simp)
      simp only [KdOk] at hkd
      subst hkd
      have hri := hev i (by simp [Op.operands]) _ hi
      simp only [Rv] at hri
      have hr := hev x (by simp [Op.operands]) _ hx
      simp only [Rv] at hr
      obtain ⟨xs, hxs, hu'⟩ := hr
      split at h
      · rename_i ety hety
        obtain ⟨j, _, hj, hjs, _⟩ := (hE.T _ _ hety).info
        split at h
        · rename_i hc
          simp only [Bool.and_eq_true, Nat.blt_eq] at hc
          rw [fL_eq, take_eq, drop_eq] at h
          obtain ⟨v, u, g1, g2, g3⟩ := part_ok hE hety hxs h
          refine ⟨v, u, g1, g2, fun w => ?_⟩
          have hm' : (0 : Int) ≤ Int.ofNat m ∧ Int.ofNat m < (ln : Int) := ⟨Int.natCast_nonneg _, Int.ofNat_lt.2 hc.1⟩
          simp only [execOp, ho, hu', hri, Instr.index, asIntOf, Sem.run_bind, Sem.run_pure, Result.andThen_ok, run_underlying hd]
          rw [if_pos hm']
          have g3' := g3 w
          simp only [Nat.mul_eq] at g3'
          simp [run_sizeOf' hj, hjs, g3']
        · cases h
      · cases h
    · rename_i s ki m hk hx hi
      obtain ⟨d, hd, hkd⟩ := und_of hE hk (by simp)
      simp only [KdOk] at hkd
      subst hkd
      have hri := hev i (by simp [Op.operands]) _ hi
      simp only [Rv] at hri
      have hr := hev x (by simp [Op.operands]) _ hx
      simp only [Rv] at hr
      obtain ⟨hb, hu'⟩ := hr
      split at h
      · rename_i b hb'
        rw [nth_eq] at hb'
        refine ⟨_, .int .u8 (Int.ofNat b), h, by simp only [Rv], fun w => ?_⟩
        have hlt := (List.getElem?_eq_some_iff.1 hb').1
        have hbb : b < 256 := hb b (List.mem_of_getElem? hb')
        have hget : (bytesOf s)[m]? = some (UInt8.ofNat b) := by
          have hm : m < (bytesOf s).size := by rw [bytesOf_size]; exact hlt
          rw [getElem?_pos (bytesOf s) m hm]
          have : (bytesOf s)[m] = (s.map UInt8.ofNat).toArray[m]'(by simpa using hlt) := rfl
          rw [this]
          have hsb : s[m] = b := (List.getElem?_eq_some_iff.1 hb').2
          simp [hsb]
        have h0 : (0 : Int) ≤ Int.ofNat m := Int.natCast_nonneg _
        simp only [execOp, ho, hu', hri, Instr.index, asIntOf, Sem.run_bind, Sem.run_pure, Result.andThen_ok, run_underlying hd]
        rw [if_pos h0]
        simp [hget, Nat.mod_eq_of_lt hbb]
      · cases h
    · cases h
  | extract x i =>
    rw [ho] at h hev
    simp only [opP] at h
    split at h
    · rename_i l hx
      have hr := hev x (by simp [Op.operands]) _ hx
      simp only [Rv] at hr
      obtain ⟨xs, hxs, hu'⟩ := hr
      split at h
      · rename_i v hv
        rw [nth_eq] at hv
        obtain ⟨u, h1, h2⟩ := hxs.get i v hv
        exact ⟨v, u, h, h2, fun w => by simp [execOp, ho, hu', Instr.extract, h1]⟩
      · cases h
    · cases h
  | sliceToArrayPointer t x =>
    rw [ho] at h hev
    simp only [opP] at h
    split at h
    · rename_i m e id es off ln c hk hx
      obtain ⟨d, hd, hkd⟩ := und_of hE hk (by simp)
      simp only [KdOk] at hkd
      subst hkd
      have hr := hev x (by simp [Op.operands]) _ hx
      split at h
      · rename_i ety hety
        split at h
        · rename_i hc
          simp only [Bool.and_eq_true, Nat.beq_eq, Nat.ble_eq] at hc
          split at h
          · cases h
          · rename_i m' hm0
            have hs : ∃ L c', id < n ∧ ρ id = some L ∧ ρe x = .slice (some ⟨L.b, L.base + off, none⟩) ln c' := by
              cases c with
              | none =>
                simp only [Rv] at hr
                obtain ⟨h0, _, L, c', o', h1, h2, h3, _, h5⟩ := hr
                have : o' = L.base + off := by
                  rcases h5 with h5 | h5
                  · exact h5
                  · have hm0 : m ≠ 0 := fun e => hm0 e
                    omega
                exact ⟨L, c', h0, h1, by rw [h2, this]⟩
              | some c =>
                simp only [Rv] at hr
                obtain ⟨h0, _, _, L, h1, h2⟩ := hr
                exact ⟨L, c, h0, h1, h2⟩
            obtain ⟨L, c', hid, hL, hu'⟩ := hs
            refine ⟨_, .pointer (some ⟨L.b, L.base + off, none⟩), h, by simp only [Rv]; exact ⟨hid, L, hL, rfl⟩, fun w => ?_⟩
            simp [execOp, ho, hu', Instr.arrayAt, run_underlying hd, Nat.not_lt.2 hc.2]
        · cases h
      · cases h
    · cases h
  | convert s t x =>
    rw [ho] at h hev
    simp only [opP] at h
    split at h
    · rename_i sty kd kk m hs hk hx
      obtain ⟨d, hd, hkd⟩ := und_of hE hk (by simp)
      simp only [KdOk] at hkd
      subst hkd
      obtain ⟨ds, hds, _⟩ := (hE.T _ _ hs).und
      have hr := hev x (by simp [Op.operands]) _ hx
      simp only [Rv] at hr
      rw [wr_eq] at h
      exact ⟨_, .int kd (kd.wrap m), h, by simp only [Rv], fun w => by simp [execOp, ho, hr, convert, run_underlying hds, run_underlying hd, Conv.intToInt]⟩
    · rename_i sty ss hs hk hx
      obtain ⟨d, hd, hkd⟩ := und_of hE hk (by simp)
      simp only [KdOk] at hkd
      subst hkd
      obtain ⟨ds, hds, _⟩ := (hE.T _ _ hs).und
      have hr := hev x (by simp [Op.operands]) _ hx
      have hr0 := hr
      simp only [Rv] at hr
      exact ⟨_, ρe x, h, hr0, fun w => by simp [execOp, ho, hr.2, convert, run_underlying hds, run_underlying hd]⟩
    · cases h
  | call c =>
    rw [ho] at h hev
    simp only [opP] at h
    split at h
    · rename_i b hc
      obtain ⟨cs, hrun⟩ := run_builtin (P := P) ho hc ρe
      obtain ⟨vs, h1, h2⟩ := evL_ok (ρ := ρ) (n := n) (ρe := ρe) c.args.toList (fun x hx => hev x (by simp only [Op.operands, Call.operands, hc, Array.mem_append]; exact .inr (by simpa using hx))) h
      have hargs : c.args.map ρe = (c.args.toList.map ρe).toArray := by apply Array.ext'; simp
      generalize c.args.toList.map ρe = us at h2 hargs
      rw [hargs] at hrun
      cases b <;> simp only [biP] at h1 <;> try cases h1
      · -- cap
        split at h1
        · rename_i x t hts
          match us, h2 with
          | [u], h2 =>
            simp only [RvL] at h2
            have hat : c.argTypes = #[t] := by apply Array.ext'; simpa using hts
            split at h1
            · rename_i e hk _
              obtain ⟨d, hd, hkd⟩ := und_of hE hk (by simp)
              simp only [KdOk] at hkd
              subst hkd
              have hr := h2.1
              simp only [Rv] at hr
              subst hr
              exact ⟨_, .int .i64 0, h1, by simp only [Rv], fun w => by rw [hrun w]; simp [Go.builtin, Builtin.cap_, hat, run_underlying hd, goInt]⟩
            · rename_i e id es off ln c' hk _
              obtain ⟨d, hd, hkd⟩ := und_of hE hk (by simp)
              simp only [KdOk] at hkd
              subst hkd
              have hr := h2.1
              simp only [Rv] at hr
              obtain ⟨_, _, _, L, _, rfl⟩ := hr
              exact ⟨_, .int .i64 (Int.ofNat c'), h1, by simp only [Rv], fun w => by rw [hrun w]; simp [Go.builtin, Builtin.cap_, hat, run_underlying hd, goInt]⟩
            · cases h1
          | [], h2 => simp [RvL] at h2
          | _ :: _ :: _, h2 => simp [RvL] at h2
        · cases h1
      · -- len
        split at h1
        · rename_i x t hts
          match us, h2 with
          | [u], h2 =>
            simp only [RvL] at h2
            have hat : c.argTypes = #[t] := by apply Array.ext'; simpa using hts
            split at h1
            · rename_i e hk _
              obtain ⟨d, hd, hkd⟩ := und_of hE hk (by simp)
              simp only [KdOk] at hkd
              subst hkd
              have hr := h2.1
              simp only [Rv] at hr
              subst hr
              exact ⟨_, .int .i64 0, h1, by simp only [Rv], fun w => by rw [hrun w]; simp [Go.builtin, Builtin.len_, hat, run_underlying hd, goInt]⟩
            · rename_i e id es off ln c' hk _
              obtain ⟨d, hd, hkd⟩ := und_of hE hk (by simp)
              simp only [KdOk] at hkd
              subst hkd
              have hr := h2.1
              have hs : ∃ a c'', u = .slice a ln c'' := by
                cases c' with
                | none => simp only [Rv] at hr; obtain ⟨_, _, L, c, o, _, rfl, _⟩ := hr; exact ⟨_, _, rfl⟩
                | some c => simp only [Rv] at hr; obtain ⟨_, _, _, L, _, rfl⟩ := hr; exact ⟨_, _, rfl⟩
              obtain ⟨a, c'', rfl⟩ := hs
              exact ⟨_, .int .i64 (Int.ofNat ln), h1, by simp only [Rv], fun w => by rw [hrun w]; simp [Go.builtin, Builtin.len_, hat, run_underlying hd, goInt]⟩
            · rename_i s hk _
              obtain ⟨d, hd, hkd⟩ := und_of hE hk (by simp)
              simp only [KdOk] at hkd
              subst hkd
              have hr := h2.1
              simp only [Rv] at hr
              obtain ⟨_, rfl⟩ := hr
              rw [fN_eq] at h1
              exact ⟨_, .int .i64 (Int.ofNat s.length), h1, by simp only [Rv], fun w => by rw [hrun w]; simp [Go.builtin, Builtin.len_, hat, run_underlying hd, goInt, bytesOf_size]⟩
            · cases h1
          | [], h2 => simp [RvL] at h2
          | _ :: _ :: _, h2 => simp [RvL] at h2
        · cases h1
      · -- max
        split at h1
        · rename_i kd m l
          match us, h2 with
          | u :: us, h2 =>
            simp only [RvL] at h2
            have hr := h2.1
            simp only [Rv] at hr
            subst hr
            obtain ⟨v, u, g1, g2, g3⟩ := minmax_ok (P := P) igt Builtin.max2 (fun k x y w => by simp [Builtin.max2, igt_eq]) l kd m us h2.2 h1
            exact ⟨v, u, g1, g2, fun w => by rw [hrun w]; simp [Go.builtin, Builtin.max_, g3 w]⟩
          | [], h2 => simp [RvL] at h2
        · cases h1
      · -- min
        split at h1
        · rename_i kd m l
          match us, h2 with
          | u :: us, h2 =>
            simp only [RvL] at h2
            have hr := h2.1
            simp only [Rv] at hr
            subst hr
            obtain ⟨v, u, g1, g2, g3⟩ := minmax_ok (P := P) ilt Builtin.min2 (fun k x y w => by simp [Builtin.min2, ilt_eq]) l kd m us h2.2 h1
            exact ⟨v, u, g1, g2, fun w => by rw [hrun w]; simp [Go.builtin, Builtin.min_, g3 w]⟩
          | [], h2 => simp [RvL] at h2
        · cases h1
    · cases h
  | _ => rw [ho] at h; simp [opP] at h
end
end CX
