/-
  Texts of the executors: SxW, SxApp, SxAq, SxExec, SxDraw, SxDraw2, SxDraw3, SxDraw4, SxDraw5, SxVc, SxFn.
-/
import Derived.Test.YtmnaiddobipclaaSenseCauses1
/-
  SX: operations that write.
-/
namespace SX
open Go

theorem over_eq {α : Type} : ∀ (l : List α) (n : Nat) (vs : List α), n + vs.length ≤ l.length → over l n vs = l.take n ++ vs ++ l.drop (n + vs.length)
  | l, n, [], h => by simp [over]
  | [], n, v :: vs, h => by simp at h
  | x :: r, 0, v :: vs, h => by
    simp only [over]
    rw [over_eq r 0 vs (by simpa using h)]
    simp
  | x :: r, n + 1, v :: vs, h => by
    simp only [over]
    rw [over_eq r n (v :: vs) (by simp at h ⊢; omega)]
    rw [show n + 1 + (v :: vs).length = (n + (v :: vs).length) + 1 by omega]
    simp

/-- One entry of memory turns, its block alone. -/
theorem SatM.upd {ρ : Nat → Value} {R : Nat → Prop} {m : Mm} {w w' : World} (hM : SatM ρ R m w) {id : Nat} {x x' : Res} (hx : look m.mem id = some x) (hg : x ≠ .gone)
    (hsize : w'.heap.size = w.heap.size) (hother : ∀ b, ownB (ρ id) ≠ some b → w'.heap[b]? = w.heap[b]?)
    (hx' : ResOk ρ R w' m.next id x') : SatM ρ R ⟨(id, x') :: m.mem, m.ro, m.next⟩ w' := by
  have hk : ∀ b, R b → w'.heap[b]? = w.heap[b]? := fun b hb => hother b fun h => hM.sep1 id x hx hg b h hb
  have parts : ∀ i y, look ((id, x') :: m.mem) i = some y → (i = id ∧ y = x') ∨ (i ≠ id ∧ look m.mem i = some y) := by
    intro i y h
    simp only [look] at h
    split at h
    · rename_i hb
      simp only [Option.some.injEq] at h
      exact .inl ⟨(beqN_eq hb).symm, h.symm⟩
    · rename_i hb
      exact .inr ⟨fun e => by subst e; simp at hb, h⟩
  refine ⟨?_, ?_, ?_, ?_, ?_⟩
  · intro i y h
    rcases parts i y h with ⟨rfl, rfl⟩ | ⟨hne, h⟩
    · exact ⟨(hM.mem _ x hx).1, hx'⟩
    · obtain ⟨h1, h2⟩ := hM.mem i y h
      refine ⟨h1, ResOk_mono (Nat.le_refl _) (agree.refl _ _) h1 (fun _ h => h) hk (fun hy b hb => hother b fun h' => ?_) h2⟩
      exact hM.sep2 i y id x hne h hx hy hg b hb h'
  · intro i y h hy b hb
    rcases parts i y h with ⟨rfl, rfl⟩ | ⟨hne, h⟩
    · exact hM.sep1 _ x hx hg b hb
    · exact hM.sep1 i y h hy b hb
  · intro i y i' y' hne h h' hy hy' b hb
    rcases parts i y h with ⟨e1, _⟩ | ⟨_, h1⟩ <;> rcases parts i' y' h' with ⟨e2, _⟩ | ⟨_, h2⟩
    · exact absurd (e1.trans e2.symm) hne
    · subst e1
      exact hM.sep2 _ x i' y' hne hx h2 hg hy' b hb
    · subst e2
      exact hM.sep2 i y _ x hne h1 hx hy hg b hb
    · exact hM.sep2 i y i' y' hne h1 h2 hy hy' b hb
  · intro i s h
    obtain ⟨h1, h2⟩ := hM.ro i s h
    exact ⟨h1, RdK_mono hk (fun _ h => h) _ _ _ h2⟩
  · intro b hb
    rw [hsize]; exact hM.Rlt b hb

theorem owns_frz {ρ : Nat → Value} {m : Mm} {id b : Nat} (h : Owns ρ (frz m id) b) : Owns ρ m b := by
  unfold frz at h
  split at h
  · exact h
  · split at h
    · obtain ⟨i, x, hx, hg, hb⟩ := h
      simp only [look] at hx
      split at hx
      · simp only [Option.some.injEq] at hx
        exact absurd hx.symm hg
      · exact ⟨i, x, hx, hg, hb⟩
    · exact h
theorem owns_frzA {ρ : Nat → Value} {b : Nat} : ∀ (l : List SV) {m : Mm}, Owns ρ (frzL.frzA m l) b → Owns ρ m b
  | [], m, h => h
  | x :: r, m, h => by
    cases x with
    | «at» id off => exact owns_frz (owns_frzA r h)
    | vw id es lo n => exact owns_frz (owns_frzA r h)
    | _ => exact owns_frzA r h
theorem owns_frzL {ρ : Nat → Value} {b : Nat} : ∀ (l : List SV) {m : Mm}, Owns ρ (frzL m l) b → Owns ρ m b
  | [], m, h => h
  | x :: r, m, h => by
    cases x with
    | «at» id off => exact owns_frz (owns_frzL r h)
    | vw id es lo n => exact owns_frz (owns_frzL r h)
    | agg l => exact owns_frzA l (owns_frzL r h)
    | _ => exact owns_frzL r h
/-- What is frozen is only read from then on. -/
theorem SatM.frz {ρ : Nat → Value} {R : Nat → Prop} {m : Mm} {w : World} (hM : SatM ρ R m w) (id : Nat) :
    ∃ R', SatM ρ R' (frz m id) w ∧ (∀ b, R b → R' b) ∧ (frz m id).next = m.next ∧ (∀ b, R' b → R b ∨ Owns ρ m b) := by
  unfold SX.frz
  split
  · exact ⟨R, hM, fun _ h => h, rfl, fun _ h => .inl h⟩
  · split
    · rename_i ex s hs
      obtain ⟨hlt, hr⟩ := hM.mem _ _ hs
      have hall := sl_rdAll hM (id := id) (s := s) (by unfold slOf; simp [*])
      refine ⟨fun b => R b ∨ ownB (ρ id) = some b, ?_, fun _ h => .inl h, rfl, fun b hb => hb.imp (fun h => h) (fun h => ⟨id, _, hs, by simp, h⟩)⟩
      have parts : ∀ i y, look ((id, Res.gone) :: m.mem) i = some y → (i = id ∧ y = .gone) ∨ (i ≠ id ∧ look m.mem i = some y) := by
        intro i y h
        simp only [look] at h
        split at h
        · rename_i hb
          simp only [Option.some.injEq] at h
          exact .inl ⟨(beqN_eq hb).symm, h.symm⟩
        · rename_i hb
          exact .inr ⟨fun e => by subst e; simp at hb, h⟩
      refine ⟨?_, ?_, ?_, ?_, ?_⟩
      · intro i y h
        rcases parts i y h with ⟨rfl, rfl⟩ | ⟨hne, h⟩
        · exact ⟨hlt, trivial⟩
        · obtain ⟨h1, h2⟩ := hM.mem i y h
          exact ⟨h1, ResOk_mono (Nat.le_refl _) (agree.refl _ _) h1 (fun _ h => .inl h) (fun _ _ => rfl) (fun _ _ _ => rfl) h2⟩
      · intro i y h hy b hb
        rcases parts i y h with ⟨rfl, rfl⟩ | ⟨hne, h⟩
        · exact absurd rfl hy
        · rintro (h' | h')
          · exact hM.sep1 i y h hy b hb h'
          · exact hM.sep2 i y id _ hne h hs hy (by simp) b hb h'
      · intro i y i' y' hne h h' hy hy' b hb
        rcases parts i y h with ⟨rfl, rfl⟩ | ⟨_, h⟩
        · exact absurd rfl hy
        · rcases parts i' y' h' with ⟨rfl, rfl⟩ | ⟨_, h'⟩
          · exact absurd rfl hy'
          · exact hM.sep2 i y i' y' hne h h' hy hy' b hb
      · intro i s' h
        simp only [look] at h
        split at h
        · rename_i hb
          simp only [Option.some.injEq] at h
          subst h
          have := beqN_eq hb
          subst this
          refine ⟨hlt, ?_⟩
          rcases hr with ⟨hn, hv⟩ | ⟨b, cap, cur, ty, hv, h1, _, h3, hh, hsz, hrow⟩
          · simp only [RdK, D.ofL, D.n, D.row]
            exact ⟨none, 0, by rw [hv, hn], by omega, by simp [maxLen], fun r hr => by omega⟩
          · simp only [RdK, D.ofL, D.n, D.row]
            refine ⟨some ⟨b, 0, none⟩, cap, hv, h1, h3, fun r hr => ⟨_, rfl, .inr (by rw [hv]; rfl), ?_⟩⟩
            refine RdKs_mono (w := w) (R := R) (fun _ _ => rfl) (fun _ h => .inl h) _ _ _ _ 0 (fun c => ?_) (hrow r hr)
            rw [add0, cell_of_row w b _ cur ty (0, 0) hh]
        · obtain ⟨h1, h2⟩ := hM.ro i s' h
          exact ⟨h1, RdK_mono (fun _ _ => rfl) (fun _ h => .inl h) _ _ _ h2⟩
      · rintro b (h | h)
        · exact hM.Rlt b h
        · exact own_lt hM hs (by simp) h
    · exact ⟨R, hM, fun _ h => h, rfl, fun _ h => .inl h⟩

theorem SatM.frzA {ρ : Nat → Value} {w : World} : ∀ (l : List SV) {R : Nat → Prop} {m : Mm}, SatM ρ R m w → ∃ R', SatM ρ R' (frzL.frzA m l) w ∧ (∀ b, R b → R' b) ∧ (frzL.frzA m l).next = m.next ∧ (∀ b, R' b → R b ∨ Owns ρ m b)
  | [], R, m, h => ⟨R, by simpa [frzL.frzA] using h, fun _ h => h, rfl, fun _ h => .inl h⟩
  | x :: r, R, m, h => by
    cases x with
    | «at» id off =>
      obtain ⟨R1, h1, h2, h3, h7⟩ := h.frz id
      obtain ⟨R2, h4, h5, h6, h8⟩ := SatM.frzA r h1
      exact ⟨R2, by simpa [frzL.frzA] using h4, fun b hb => h5 b (h2 b hb), by simp only [frzL.frzA]; rw [h6, h3], fun b hb => (h8 b hb).elim (h7 b) (fun h => .inr (owns_frz h))⟩
    | vw id es lo n =>
      obtain ⟨R1, h1, h2, h3, h7⟩ := h.frz id
      obtain ⟨R2, h4, h5, h6, h8⟩ := SatM.frzA r h1
      exact ⟨R2, by simpa [frzL.frzA] using h4, fun b hb => h5 b (h2 b hb), by simp only [frzL.frzA]; rw [h6, h3], fun b hb => (h8 b hb).elim (h7 b) (fun h => .inr (owns_frz h))⟩
    | _ => simpa [frzL.frzA] using SatM.frzA r h
theorem SatM.frzL {ρ : Nat → Value} {w : World} : ∀ (l : List SV) {R : Nat → Prop} {m : Mm}, SatM ρ R m w → ∃ R', SatM ρ R' (SX.frzL m l) w ∧ (∀ b, R b → R' b) ∧ (SX.frzL m l).next = m.next ∧ (∀ b, R' b → R b ∨ Owns ρ m b)
  | [], R, m, h => ⟨R, by simpa [SX.frzL] using h, fun _ h => h, rfl, fun _ h => .inl h⟩
  | x :: r, R, m, h => by
    cases x with
    | «at» id off =>
      obtain ⟨R1, h1, h2, h3, h7⟩ := h.frz id
      obtain ⟨R2, h4, h5, h6, h8⟩ := SatM.frzL r h1
      exact ⟨R2, by simpa [SX.frzL] using h4, fun b hb => h5 b (h2 b hb), by simp only [SX.frzL]; rw [h6, h3], fun b hb => (h8 b hb).elim (h7 b) (fun h => .inr (owns_frz h))⟩
    | vw id es lo n =>
      obtain ⟨R1, h1, h2, h3, h7⟩ := h.frz id
      obtain ⟨R2, h4, h5, h6, h8⟩ := SatM.frzL r h1
      exact ⟨R2, by simpa [SX.frzL] using h4, fun b hb => h5 b (h2 b hb), by simp only [SX.frzL]; rw [h6, h3], fun b hb => (h8 b hb).elim (h7 b) (fun h => .inr (owns_frz h))⟩
    | agg l =>
      obtain ⟨R1, h1, h2, h3, h7⟩ := SatM.frzA l h
      obtain ⟨R2, h4, h5, h6, h8⟩ := SatM.frzL r h1
      exact ⟨R2, by simpa [SX.frzL] using h4, fun b hb => h5 b (h2 b hb), by simp only [SX.frzL]; rw [h6, h3], fun b hb => (h8 b hb).elim (h7 b) (fun h => .inr (owns_frzA _ h))⟩
    | _ => simpa [SX.frzL] using SatM.frzL r h

/-- What an operation that writes comes to. -/
structure WOk (ρ : Nat → Value) (R : Nat → Prop) (m : Mm) (w : World) (q : WR) (v : Value) (ρ' : Nat → Value) (R' : Nat → Prop) (w' : World) : Prop where
  sat : SatM ρ' R' q.m w'
  fr : Fr (Owns ρ m) w (Owns ρ' q.m) w'
  sub : ∀ b, R b → R' b
  ag : agree m.next ρ ρ'
  le : m.next ≤ q.m.next
  v : Den ρ' q.m.next q.sv v
  rn : ∀ b, R' b → R b

theorem setRow_ext {ρ : Nat → Value} {R : Nat → Prop} {m : Mm} {w : World} (hM : SatM ρ R m w) {id : Nat} {x : Res} (hx : look m.mem id = some x) (hg : x ≠ .gone) {b : Nat} (hb : ownB (ρ id) = some b) (cs : Array Value) :
    Ext R w (w.setRow b cs) :=
  ⟨rfl, rfl, rfl, by simp, fun k hk => setRow_other w b k _ (fun e => by subst e; exact hM.sep1 id x hx hg _ hb hk)⟩

theorem setRow_fr {ρ : Nat → Value} {m : Mm} {w : World} {id : Nat} {x : Res} (hx : look m.mem id = some x) (hg : x ≠ .gone) {b : Nat} (hb : ownB (ρ id) = some b) (cs : Array Value) {y : Res} {ro : List (Nat × Sl)} {n : Nat} :
    Fr (Owns ρ m) w (Owns ρ ⟨(id, y) :: m.mem, ro, n⟩) (w.setRow b cs) := by
  refine ⟨rfl, rfl, rfl, by simp, fun k _ hk => setRow_other w b k _ (fun e => by subst e; exact hk ⟨id, x, hx, hg, hb⟩), fun k ⟨i, z, hz, hzg, hk⟩ => .inl ?_⟩
  simp only [look] at hz
  split at hz
  · rename_i he
    have := beqN_eq he
    subst this
    exact ⟨id, x, hx, hg, hk⟩
  · exact ⟨i, z, hz, hzg, hk⟩

/-- The reading of a row hangs on its own cells alone. -/
theorem rdKs_ext {w : World} {R : Nat → Prop} : ∀ (ks : List Kd) (c0 : Nat) {f f' : Nat → D} {g g' : Nat → Option Value}, RdKs w R ks f g c0 →
    (∀ c, c0 ≤ c ∧ c < c0 + ks.length → f' c = f c) → (∀ c, c0 ≤ c ∧ c < c0 + ks.length → g' c = g c) → RdKs w R ks f' g' c0
  | [], c0, f, f', g, g', _, _, _ => by simp [RdKs]
  | k :: ks, c0, f, f', g, g', h, hf, hg => by
    simp only [RdKs, List.length_cons] at h hf hg ⊢
    obtain ⟨⟨u, hu, hk⟩, hr⟩ := h
    exact ⟨⟨u, by rw [hg c0 (by omega)]; exact hu, by rw [hf c0 (by omega)]; exact hk⟩, rdKs_ext ks (c0 + 1) hr (fun c hc => hf c (by omega)) (fun c hc => hg c (by omega))⟩

theorem rdKs_split {w : World} {R : Nat → Prop} : ∀ (ks ks' : List Kd) (c0 : Nat) {f : Nat → D} {g : Nat → Option Value}, RdKs w R ks f g c0 → RdKs w R ks' f g (c0 + ks.length) → RdKs w R (ks ++ ks') f g c0
  | [], ks', c0, f, g, _, h => by simpa using h
  | k :: ks, ks', c0, f, g, h, h' => by
    simp only [RdKs, List.cons_append, List.length_cons] at h h' ⊢
    exact ⟨h.1, rdKs_split ks ks' (c0 + 1) h.2 (by rw [show c0 + 1 + ks.length = c0 + (ks.length + 1) by omega]; exact h')⟩

/-- A part of a row is written. -/
theorem rdKs_over {w : World} {R : Nat → Prop} (ks : List Kd) (off n : Nat) (hle : off + n ≤ ks.length) (f f1 f' : Nat → D) (g g1 g' : Nat → Option Value)
    (h : RdKs w R ks f g 0) (h1 : RdKs w R ((ks.drop off).take n) f1 g1 off) (hf1 : ∀ c, off ≤ c → c < off + n → f' c = f1 c) (hf : ∀ c, ¬ (off ≤ c ∧ c < off + n) → f' c = f c)
    (hg1 : ∀ c, off ≤ c → c < off + n → g' c = g1 c) (hg : ∀ c, c < ks.length → ¬ (off ≤ c ∧ c < off + n) → g' c = g c) : RdKs w R ks f' g' 0 := by
  have e : ks = ks.take off ++ ((ks.drop off).take n ++ ks.drop (off + n)) := by
    rw [← List.drop_drop, List.take_append_drop, List.take_append_drop]
  have l1 : (ks.take off).length = off := by simp; omega
  have l2 : ((ks.drop off).take n).length = n := by simp; omega
  rw [e]
  refine rdKs_split _ _ 0 (rdKs_ext _ 0 (RdKs_take off _ _ _ _ h) (fun c hc => hf c (by omega)) (fun c hc => hg c (by omega) (by omega))) ?_
  rw [l1]
  refine rdKs_split _ _ _ (rdKs_ext _ _ (by rw [Nat.zero_add]; exact h1) (fun c hc => hf1 c (by omega) (by omega)) (fun c hc => hg1 c (by omega) (by omega))) ?_
  rw [l2]
  have := RdKs_drop (off + n) _ _ _ _ h
  rw [Nat.zero_add] at this ⊢
  exact rdKs_ext _ _ this (fun c hc => hf c (by omega)) (fun c hc => hg c (by rw [List.length_drop] at hc; omega) (by omega))

section
variable {P : Program} {E : Env} (hE : EnvOk E P) {ρ : Nat → Value} {R : Nat → Prop} {m : Mm} {w : World} (hM : SatM ρ R m w) {q : WR} {r : Option Nat}

theorem cells_one {l : List SV} (hl : ∀ x ∈ l, oneC x = true) (ρ : Nat → Value) (hlt : ltL ρ m.next l) : ∀ v ∈ denL ρ l, v.oneCell' = true := by
  intro v hv
  rw [denL_map, List.mem_map] at hv
  obtain ⟨x, hx, rfl⟩ := hv
  have h1 := hl x hx
  have h2 := (ltL_iff _ _ _).1 hlt x hx
  cases x with
  | «at» id off =>
    have := h2.2
    simp only [den]
    revert this
    cases ρ id with
    | pointer a => cases a <;> simp [shiftV, Value.oneCell', oneV]
    | _ => simp [shiftV, Value.oneCell', oneV]
  | el id es idx off =>
    obtain ⟨_, a, len, cap, hρ, _⟩ := h2
    simp [den, hρ, elp, Value.oneCell']
  | vw id es lo k =>
    obtain ⟨_, a, len, cap, hρ, _⟩ := h2
    cases lo <;> simp [den, hρ, vwV, Value.oneCell']
  | raw v => simpa [den, ← oneV_eq, oneC] using h1
  | agg l => simp [oneC] at h1
  | tup l => simp [oneC] at h1
  | unk => simp [oneC] at h1
  | _ => rfl

include hE hM

theorem store_ok {a : Act} {o : Oper} {t : Nat} {x y : Operand} (ho : o.op = .store t x y) {sx sy : SV} (hx : Den ρ m.next sx (a.eval x)) (hy : Den ρ m.next sy (a.eval y))
    (hq : xstore E m t sx sy = some q) {K : Act → World → Prop} {Q : Exit → Act → World → Prop}
    (hk : ∀ ρ' R' w', WOk ρ R m w q undef ρ' R' w' → K (a.put o.dst undef) w') : o.wpIn (Fw r) 0 P a w K Q := by
  have fin : ∀ w', (execOp a.eval o).run P w = .ok .skip w' → (∃ ρ' R', WOk ρ R m w q undef ρ' R' w') → o.wpIn (Fw r) 0 P a w K Q := by
    intro w' hrun ⟨ρ', R', hw⟩
    refine ⟨fun _ _ => trivial, ?_⟩
    rw [Oper.semAt_eq _ _ _ (by rw [ho]; intro c; simp), hrun]
    exact hk _ _ _ hw
  unfold xstore at hq
  split at hq
  · rename_i ty hty
    have hok := hE.T _ _ hty
    obtain ⟨i, z, hi, his, _⟩ := hok.info
    split at hq
    · rename_i hc
      simp only [Bool.and_eq_true, beqN_iff] at hc
      obtain ⟨hlen, hone⟩ := hc
      obtain ⟨hcells, hfl⟩ := flat_cells hy hone
      have hone' := List.all_eq_true.1 hone
      have hsz : (a.eval y).cells.size = i.size := by rw [hcells, his]; simp [denL_length, hlen]
      split at hq
      · rename_i id off
        obtain ⟨hx', hid, _⟩ := den_at hx
        split at hq
        · rename_i l hl
          split at hq
          · rename_i hle
            have hle : off + (flat sy).length ≤ l.length := by simpa using hle
            simp only [Option.some.injEq] at hq
            obtain ⟨_, hltl, honel, b, tt, hρ, hh⟩ := hM.mem _ _ hl
            have hst := run_storeCells_at (P := P) b off tt (denL ρ (flat sy)) 0 _ w hh (by simp [denL_length]; exact hle) (cells_one (m := m) hone' ρ hfl)
            have haddr : a.eval x = .pointer (some ⟨b, off, none⟩) := by rw [hx', hρ]; simp [shiftV, add0]
            have hnew : ((denL ρ l).toArray.toList.take (off + 0) ++ denL ρ (flat sy) ++ (denL ρ l).toArray.toList.drop (off + 0 + (denL ρ (flat sy)).length)) = denL ρ (over l off (flat sy)) := by
              rw [over_den, over_eq _ _ _ (by simp [denL_length]; exact hle)]
              simp
            rw [hnew] at hst
            refine fin (w.setRow b (denL ρ (over l off (flat sy))).toArray) ?_ ?_
            · have hsz' : (denL ρ (flat sy)).length = i.size := by rw [← hsz, hcells]; simp
              simp [execOp, ho, haddr, Instr.storeAt, Instr.sureAddr, storeVar, run_sizeOf' hi, hcells, hst, hsz']
            · subst hq
              refine ⟨ρ, R, hM.upd hl (by simp) (by simp) (fun k hk => setRow_other w b k _ (fun e => hk (by rw [hρ, e]; rfl))) ?_, setRow_fr hl (by simp) (by rw [hρ]; rfl) _, fun _ h => h, agree.refl _ _, Nat.le_refl _, Den.mk rfl trivial, fun _ h => h⟩
              refine ⟨?_, over_mem _ _ _ honel hone', b, tt, hρ, setRow_heap w b _ _ tt _ hh⟩
              rw [ltL_iff] at hltl hfl ⊢
              exact over_mem _ _ _ hltl hfl
          · cases hq
        · cases hq
      · rename_i id es idx off
        obtain ⟨hx', hid, ad, len, cap, hρ, hidx⟩ := den_el hx
        split at hq
        · rename_i ex s hs
          split at hq
          · rename_i hc2
            simp only [Bool.and_eq_true, beqN_iff, bleN_iff] at hc2
            obtain ⟨⟨rfl, hoff⟩, hpl⟩ := hc2
            split at hq
            · rename_i ds hds
              simp only [Option.some.injEq] at hq
              obtain ⟨hl1, hl2⟩ := dList_len _ _ _ hds
              obtain ⟨_, hr⟩ := hM.mem _ _ hs
              rcases hr with ⟨_, hv⟩ | ⟨b, cap', cur, tt, hv, h1, h2, h3, hh, hsz', hrow⟩
              · rw [hρ] at hv; cases hv
              · rw [hρ] at hv
                simp only [Value.slice.injEq, Option.some.injEq] at hv
                obtain ⟨rfl, rfl, rfl⟩ := hv
                have hin : idx * s.ks.length + off + ty.ks.length ≤ cur.size := by
                  rw [hsz']
                  have : (idx + 1) * s.ks.length ≤ cap * s.ks.length := Nat.mul_le_mul_right _ (by omega)
                  rw [Nat.add_mul, Nat.one_mul] at this; omega
                have hst := run_storeCells_at (P := P) b (idx * s.ks.length + off) tt (denL ρ (flat sy)) 0 cur w hh (by rw [denL_length, hlen]; omega) (cells_one (m := m) hone' ρ hfl)
                have haddr : a.eval x = .pointer (some ⟨b, idx * s.ks.length + off, none⟩) := by rw [hx', hρ]; simp [elp, add0]
                obtain ⟨cur', hcur'⟩ : ∃ c, (cur.toList.take (idx * s.ks.length + off + 0) ++ denL ρ (flat sy) ++ cur.toList.drop (idx * s.ks.length + off + 0 + (denL ρ (flat sy)).length)).toArray = c := ⟨_, rfl⟩
                rw [hcur'] at hst
                refine fin (w.setRow b cur') (by
                  have hsz'' : (denL ρ (flat sy)).length = i.size := by rw [← hsz, hcells]; simp
                  simp only [execOp, ho, haddr, Instr.storeAt, Instr.sureAddr, storeVar, Sem.run_bind, Sem.run_pure, Result.andThen_ok, run_sizeOf' hi, hcells, List.size_toArray, hsz'', ne_eq, not_true_eq_false, if_false, hst]) ?_
                subst hq
                have hget : ∀ k, cur'[k]? = if idx * s.ks.length + off ≤ k ∧ k < idx * s.ks.length + off + ty.ks.length then (denL ρ (flat sy))[k - (idx * s.ks.length + off)]? else cur[k]? := by
                  intro k
                  rw [← hcur']
                  simp only [List.getElem?_toArray, Nat.add_zero, denL_length, hlen]
                  have htl : (cur.toList.take (idx * s.ks.length + off)).length = idx * s.ks.length + off := by simp; omega
                  by_cases hk1 : k < idx * s.ks.length + off
                  · rw [if_neg (by omega), List.append_assoc, List.getElem?_append_left (by omega), List.getElem?_take, if_pos hk1]
                    simp
                  · by_cases hk2 : k < idx * s.ks.length + off + ty.ks.length
                    · rw [if_pos (by omega), List.getElem?_append_left (by simp [denL_length, hlen]; omega), List.getElem?_append_right (by omega), htl]
                    · rw [if_neg (by omega), List.getElem?_append_right (by simp [denL_length, hlen]; omega), List.getElem?_drop]
                      simp only [List.length_append, htl, denL_length, hlen]
                      rw [show idx * s.ks.length + off + ty.ks.length + (k - (idx * s.ks.length + off + ty.ks.length)) = k by omega]
                      simp
                have hsize' : cur'.size = cur.size := by
                  rw [← hcur']
                  simp [denL_length, hlen]; omega
                refine ⟨ρ, R, hM.upd hs (by simp) (by simp) (fun k hk => setRow_other w b k _ (fun e => hk (by rw [hρ, e]; rfl))) ?_, setRow_fr hs (by simp) (by rw [hρ]; rfl) _, fun _ h => h, agree.refl _ _, Nat.le_refl _, Den.mk rfl trivial, fun _ h => h⟩
                have hkR : ∀ k, R k → (w.setRow b cur').heap[k]? = w.heap[k]? := (setRow_ext hM hs (by simp) (b := b) (by rw [hρ]; rfl) cur').keep
                refine .inr ⟨b, cap, cur', tt, hρ, h1, h2, h3, setRow_heap w b cur cur' tt _ hh, by rw [hsize', hsz'], ?_⟩
                intro rr hrr
                have hrr : rr < s.n := hrr
                show RdKs _ R s.ks (E.A.setR s.f idx off ds rr) (fun c => cur'[rr * s.ks.length + c]?) 0
                refine RdKs_mono (R := R) (w := w) hkR (fun _ h => h) _ _ _ _ 0 (fun _ => rfl) ?_
                by_cases hri : rr = idx
                · subst hri
                  -- the row that was written
                  have hrow0 := hrow rr hrr
                  have hnew : RdKs w R ((s.ks.drop off).take ty.ks.length) (fun c => ds.getD (c - off) .nil) (fun c => (denL ρ (flat sy))[c - off]?) off :=
                    dList_rd hE.A _ _ ds off _ _ (fun v hv => plain_rd hM (List.all_eq_true.1 hpl v hv)) (nx := m.next) (den_flat hy) hds (fun j x hx => by simp [List.getD_eq_getElem?_getD, hx]) (fun j _ => by simp)
                  have hdl : ds.length = ty.ks.length := by rw [hl2, List.length_take, List.length_drop]; omega
                  exact rdKs_over s.ks off ty.ks.length hoff _ _ _ _ _ _ hrow0 hnew
                    (fun c hc1 hc2 => by rw [hE.A]; exact if_pos ⟨rfl, hc1, by rw [hdl]; exact hc2⟩)
                    (fun c hc => by rw [hE.A]; exact if_neg (by rw [hdl]; omega))
                    (fun c hc1 hc2 => by rw [hget, if_pos (by omega)]; congr 1; omega)
                    (fun c hc0 hc => by rw [hget, if_neg (by omega)])
                · have hrow0 := hrow rr hrr
                  refine rdKs_ext s.ks 0 hrow0 (fun c hc => ?_) (fun c hc => ?_)
                  · rw [hE.A]; exact if_neg (fun h => hri h.1)
                  · rw [hget, if_neg ?_]
                    rintro ⟨e1, e2⟩
                    rcases Nat.lt_or_gt_of_ne hri with hlt | hlt
                    · have : (rr + 1) * s.ks.length ≤ idx * s.ks.length := Nat.mul_le_mul_right _ hlt
                      rw [Nat.add_mul, Nat.one_mul] at this; omega
                    · have : (idx + 1) * s.ks.length ≤ rr * s.ks.length := Nat.mul_le_mul_right _ hlt
                      rw [Nat.add_mul, Nat.one_mul] at this; omega
            · cases hq
          · cases hq
        · cases hq
      · cases hq
    · cases hq
  · cases hq
end
end SX

/-
  SX: append onto what is owned.
-/
namespace SX
open Go

theorem kdsEq_scalar : ∀ a b : List Kd, kdsEq a b = true → ∀ k ∈ a, ∀ v, k ≠ .raw v
  | [], _, _, k, hk, _ => by simp at hk
  | x :: r, [], h, _, _, _ => by simp [kdsEq] at h
  | x :: r, y :: s, h, k, hk, v => by
    simp only [kdsEq, Bool.and_eq_true] at h
    rcases List.mem_cons.1 hk with rfl | hk
    · rintro rfl
      simp [kdEq] at h
    · exact kdsEq_scalar r s h.2 k hk v

/-- A row's cells, as a list. -/
theorem rdKs_list {w : World} {R : Nat → Prop} : ∀ (ks : List Kd) (f : Nat → D) (g : Nat → Option Value) (c : Nat), (∀ k ∈ ks, ∀ v, k ≠ .raw v) → RdKs w R ks f g c →
    ∀ j, j < ks.length → ∃ u, g (c + j) = some u ∧ u.oneCell' = true
  | [], _, _, _, _, _, j, hj => by simp at hj
  | k :: ks, f, g, c, hk, h, j, hj => by
    simp only [RdKs] at h
    obtain ⟨⟨u, hu, hkd⟩, hr⟩ := h
    cases j with
    | zero =>
      refine ⟨u, hu, ?_⟩
      cases k with
      | int k => simp only [RdK] at hkd; rw [hkd]; rfl
      | bool => simp only [RdK] at hkd; rw [hkd]; rfl
      | str => simp only [RdK] at hkd; rw [hkd]; rfl
      | sl ks => simp only [RdK] at hkd; obtain ⟨a, cap, hu', _⟩ := hkd; rw [hu']; rfl
      | fnc f => simp only [RdK] at hkd; rw [hkd]; rfl
      | raw v => exact absurd rfl (hk _ (by simp) v)
    | succ j =>
      obtain ⟨u', hu', ho⟩ := rdKs_list ks f g (c + 1) (fun x hx => hk x (by simp [hx])) hr j (by simpa using hj)
      exact ⟨u', by rw [← hu']; congr 1; omega, ho⟩

/-- The cells of the rows of a slice, in one list. -/
theorem rows_list {w : World} {R : Nat → Prop} {ks : List Kd} {n : Nat} {f : Nat → Nat → D} {ad : Addr} (hk : ∀ k ∈ ks, ∀ v, k ≠ .raw v) (h0 : 0 < ks.length)
    (h : ∀ r, r < n → RdKs w R ks (f r) (fun c => w.cell? (ad.add (r * ks.length + c))) 0) :
    ∃ news : List Value, news.length = n * ks.length ∧ (∀ (j : Nat) (u : Value), news[j]? = some u → w.cell? (ad.add j) = some u) ∧ (∀ u ∈ news, u.oneCell' = true) := by
  have each : ∀ j, j < n * ks.length → ∃ u, w.cell? (ad.add j) = some u ∧ u.oneCell' = true := by
    intro j hj
    have hr : j / ks.length < n := (Nat.div_lt_iff_lt_mul h0).2 hj
    obtain ⟨u, hu, ho⟩ := rdKs_list ks _ _ 0 hk (h _ hr) (j % ks.length) (Nat.mod_lt _ h0)
    refine ⟨u, ?_, ho⟩
    rw [← hu]
    simp only [Nat.zero_add]
    rw [Nat.div_add_mod']
  refine ⟨(List.range (n * ks.length)).map fun j => (w.cell? (ad.add j)).getD undef, by simp, ?_, ?_⟩
  · intro j u hu
    rw [List.getElem?_map] at hu
    by_cases hj : j < n * ks.length
    · obtain ⟨x, hx, _⟩ := each j hj
      rw [List.getElem?_range hj] at hu
      simp only [Option.map_some, hx, Option.getD_some, Option.some.injEq] at hu
      rw [hx, hu]
    · rw [List.getElem?_eq_none (by simpa using hj)] at hu
      cases hu
  · intro u hu
    obtain ⟨j, hj, rfl⟩ := List.mem_map.1 hu
    obtain ⟨x, hx, ho⟩ := each j (by simpa using hj)
    rw [hx]; exact ho

theorem run_append_none {P : Program} (w : World) (t ty e : TypeId) (i : TypeInfo) (ht : P.underlying t = some (.slice e)) (hi : P.info? e = some i) (base : Option Addr) (n cap c : Nat) (hn : n ≤ cap) :
    (Builtin.append_ #[t, t] ty #[.slice base n cap, .slice none 0 c]).run P w = .ok (.slice base n cap) w := by
  cases base <;> simp [Builtin.append_, run_underlying ht, run_sizeOf' hi, Builtin.lenOf, hn, Builtin.firstCells, loadCells, storeCells]

theorem run_append_room' {P : Program} (w : World) (t ty e : TypeId) (i : TypeInfo) (ht : P.underlying t = some (.slice e)) (hi : P.info? e = some i)
    (g sLen sCap : Nat) (cur : Array Value) (tt : TypeId) (hg : w.heap[g]? = some (.cells cur tt (0, 0)))
    (a : Addr) (m c : Nat) (news : List Value) (hl : news.length = m * i.size) (hnews : ∀ (j : Nat) (u : Value), news[j]? = some u → w.cell? (a.add j) = some u) (h1 : ∀ u ∈ news, u.oneCell' = true)
    (hroom : sLen + m ≤ sCap) (hfit : sLen * i.size + news.length ≤ cur.size) :
    (Builtin.append_ #[t, t] ty #[.slice (some ⟨g, 0, none⟩) sLen sCap, .slice (some a) m c]).run P w =
      .ok (.slice (some ⟨g, 0, none⟩) (sLen + m) sCap) (w.setRow g (cur.toList.take (sLen * i.size) ++ news ++ cur.toList.drop (sLen * i.size + news.length)).toArray) := by
  have hf := run_firstCells_some (P := P) w i.size m a m c news hl hnews
  have hst := run_storeCells_at P g (sLen * i.size) tt news 0 cur w hg (by simpa using hfit) h1
  simp only [Nat.add_zero] at hst
  simp [Builtin.append_, run_underlying ht, Go.sizeOf, typeInfo, hi, Builtin.lenOf, hroom, hf, Addr.add_lit, hst]

section
variable {P : Program} {E : Env} (hE : EnvOk E P) {ρ : Nat → Value} {R : Nat → Prop} {m : Mm} {w : World} (hM : SatM ρ R m w) {q : WR} {r : Option Nat}

def goneOf : Option Nat → List (Nat × Res)
  | some id => [(id, .gone)]
  | none => []

/-- A new owned array in the place of an old one (or of none). -/
theorem arr_new (hM : SatM ρ R m w) {w' : World} {old : Option Nat} {s' : Sl} {v' : Value} (hold : ∀ id, old = some id → ∃ ex s, look m.mem id = some (.arr ex s))
    (hsize : w.heap.size ≤ w'.heap.size)
    (hkeep : ∀ b, b < w.heap.size → (∀ id, old = some id → ownB (ρ id) ≠ some b) → w'.heap[b]? = w.heap[b]?)
    (hown : ∀ b, ownB v' = some b → b < w'.heap.size ∧ (w.heap.size ≤ b ∨ ∃ id, old = some id ∧ ownB (ρ id) = some b))
    (hv : (s'.n = 0 ∧ v' = .slice none 0 0) ∨ ∃ b cap cur ty, v' = .slice (some ⟨b, 0, none⟩) s'.n cap ∧ s'.n ≤ cap ∧ cap ≤ maxLen ∧
        w'.heap[b]? = some (.cells cur ty (0, 0)) ∧ cur.size = cap * s'.ks.length ∧ RowOk w' R s' cur) :
    SatM (updV ρ m.next v') R ⟨(m.next, .arr false s') :: (goneOf old ++ m.mem), m.ro, m.next + 1⟩ w' := by
  have ag : agree m.next ρ (updV ρ m.next v') := fun i hi => updV_ne _ _ (by omega)
  have hR : ∀ b, R b → w'.heap[b]? = w.heap[b]? := fun b hb => hkeep b (hM.Rlt b hb) (fun id hid h => by
    obtain ⟨ex, s, hs⟩ := hold id hid
    exact hM.sep1 id _ hs (by simp) b h hb)
  have parts : ∀ i y, look ((m.next, Res.arr false s') :: (goneOf old ++ m.mem)) i = some y →
      (i = m.next ∧ y = .arr false s') ∨ (i ≠ m.next ∧ old = some i ∧ y = .gone) ∨ (i ≠ m.next ∧ old ≠ some i ∧ look m.mem i = some y) := by
    intro i y h
    rw [show ∀ (k : Nat) (x : Res) l, look ((k, x) :: l) i = (match beqN k i with | true => some x | false => look l i) from fun _ _ _ => rfl] at h
    split at h
    · rename_i hb
      simp only [Option.some.injEq] at h
      exact .inl ⟨(beqN_eq hb).symm, h.symm⟩
    · rename_i hb
      have hne : i ≠ m.next := fun e => by subst e; simp at hb
      cases old with
      | none => exact .inr (.inr ⟨hne, by simp, by simpa [goneOf] using h⟩)
      | some id =>
        simp only [goneOf, List.cons_append, List.nil_append, look] at h
        split at h
        · rename_i hb2
          simp only [Option.some.injEq] at h
          exact .inr (.inl ⟨hne, by rw [beqN_eq hb2], h.symm⟩)
        · rename_i hb2
          exact .inr (.inr ⟨hne, fun e => by simp only [Option.some.injEq] at e; subst e; simp at hb2, h⟩)
  have keepOld : ∀ i y, old ≠ some i → look m.mem i = some y → y ≠ .gone → ∀ b, ownB (ρ i) = some b → w'.heap[b]? = w.heap[b]? := by
    intro i y hio hy hg b hb
    refine hkeep b (own_lt hM hy hg hb) (fun id hid h => ?_)
    obtain ⟨ex, s, hs⟩ := hold id hid
    exact hM.sep2 i y id _ (fun e => hio (by rw [hid, e])) hy hs hg (by simp) b hb h
  refine ⟨?_, ?_, ?_, ?_, ?_⟩
  · intro i y h
    rcases parts i y h with ⟨rfl, rfl⟩ | ⟨_, ho, rfl⟩ | ⟨_, ho, h⟩
    · refine ⟨Nat.lt_succ_self _, ?_⟩
      rcases hv with ⟨h1, h2⟩ | ⟨b, cap, cur, ty, h1, h2, h3, h4, h5, h6⟩
      · exact .inl ⟨h1, by rw [updV_same]; exact h2⟩
      · exact .inr ⟨b, cap, cur, ty, by rw [updV_same]; exact h1, h2, (fun h => by cases h), h3, h4, h5, h6⟩
    · obtain ⟨ex, s, hs⟩ := hold i ho
      exact ⟨Nat.lt_succ_of_lt (hM.mem _ _ hs).1, trivial⟩
    · obtain ⟨h1, h2⟩ := hM.mem i y h
      exact ⟨Nat.lt_succ_of_lt h1, ResOk_mono (Nat.le_succ _) ag h1 (fun _ h => h) hR (fun hg b hb => keepOld i y ho h hg b hb) h2⟩
  · intro i y h hg b hb
    rcases parts i y h with ⟨rfl, rfl⟩ | ⟨_, ho, rfl⟩ | ⟨hne, ho, h⟩
    · rw [updV_same] at hb
      intro hRb
      rcases (hown b hb).2 with h1 | ⟨id, hid, h1⟩
      · have := hM.Rlt b hRb; omega
      · obtain ⟨ex, s, hs⟩ := hold id hid
        exact hM.sep1 id _ hs (by simp) b h1 hRb
    · exact absurd rfl hg
    · rw [updV_ne _ _ hne] at hb
      exact hM.sep1 i y h hg b hb
  · intro i y i' y' hne h h' hg hg' b hb hb'
    have two : ∀ i y, i ≠ m.next → old ≠ some i → look m.mem i = some y → y ≠ .gone → ownB (ρ i) = some b → ownB v' ≠ some b := by
      intro i y hin hio hy hyg hib hvb
      rcases (hown b hvb).2 with h1 | ⟨id, hid, h1⟩
      · have := own_lt hM hy hyg hib; omega
      · obtain ⟨ex, s, hs⟩ := hold id hid
        exact hM.sep2 i y id _ (fun e => hio (by rw [hid, e])) hy hs hyg (by simp) b hib h1
    rcases parts i y h with ⟨rfl, rfl⟩ | ⟨_, ho, rfl⟩ | ⟨hi1, hi2, hi3⟩
    · rcases parts i' y' h' with ⟨rfl, rfl⟩ | ⟨_, ho, rfl⟩ | ⟨hj1, hj2, hj3⟩
      · exact hne rfl
      · exact hg' rfl
      · rw [updV_same] at hb
        rw [updV_ne _ _ hj1] at hb'
        exact two i' y' hj1 hj2 hj3 hg' hb' hb
    · exact hg rfl
    · rcases parts i' y' h' with ⟨rfl, rfl⟩ | ⟨_, ho, rfl⟩ | ⟨hj1, hj2, hj3⟩
      · rw [updV_ne _ _ hi1] at hb
        rw [updV_same] at hb'
        exact two i y hi1 hi2 hi3 hg hb hb'
      · exact hg' rfl
      · rw [updV_ne _ _ hi1] at hb
        rw [updV_ne _ _ hj1] at hb'
        exact hM.sep2 i y i' y' hne hi3 hj3 hg hg' b hb hb'
  · intro i s h
    obtain ⟨h1, h2⟩ := hM.ro i s h
    refine ⟨Nat.lt_succ_of_lt h1, ?_⟩
    rw [updV_ne _ _ (by omega)]
    exact RdK_mono hR (fun _ h => h) _ _ _ h2
  · intro b hb
    exact Nat.lt_of_lt_of_le (hM.Rlt b hb) hsize

theorem arr_wok (hM : SatM ρ R m w) {w' : World} (hio : w'.os = w.os ∧ w'.tape = w.tape ∧ w'.output = w.output) {old : Option Nat} {s' : Sl} {v' : Value} {p : Option Prop} (hold : ∀ id, old = some id → ∃ ex s, look m.mem id = some (.arr ex s))
    (hsize : w.heap.size ≤ w'.heap.size)
    (hkeep : ∀ b, b < w.heap.size → (∀ id, old = some id → ownB (ρ id) ≠ some b) → w'.heap[b]? = w.heap[b]?)
    (hown : ∀ b, ownB v' = some b → b < w'.heap.size ∧ (w.heap.size ≤ b ∨ ∃ id, old = some id ∧ ownB (ρ id) = some b))
    (hv : (s'.n = 0 ∧ v' = .slice none 0 0) ∨ ∃ b cap cur ty, v' = .slice (some ⟨b, 0, none⟩) s'.n cap ∧ s'.n ≤ cap ∧ cap ≤ maxLen ∧
        w'.heap[b]? = some (.cells cur ty (0, 0)) ∧ cur.size = cap * s'.ks.length ∧ RowOk w' R s' cur) :
    WOk ρ R m w ⟨p, .at m.next 0, ⟨(m.next, .arr false s') :: (goneOf old ++ m.mem), m.ro, m.next + 1⟩⟩ v' (updV ρ m.next v') R w' := by
  have hv1 : oneV v' = true ∧ shiftV v' 0 = v' := by
    rcases hv with ⟨_, rfl⟩ | ⟨b, cap, cur, ty, rfl, _⟩ <;> exact ⟨rfl, rfl⟩
  refine ⟨arr_new hM hold hsize hkeep hown hv, ⟨hio.1, hio.2.1, hio.2.2, hsize, fun b hb ho => hkeep b hb fun id hid h => ?_, ?_⟩, fun _ h => h, fun i hi => updV_ne _ _ (by omega), Nat.le_succ _,
    Den.mk (by simp only [den, updV_same, hv1.2]) ⟨Nat.lt_succ_self _, by rw [updV_same]; exact hv1.1⟩, fun _ h => h⟩
  · obtain ⟨ex, s, hs⟩ := hold id hid
    exact ho ⟨id, _, hs, by simp, h⟩
  · rintro b ⟨i, x, hx, hg, hb⟩
    rw [show ∀ (k : Nat) (x : Res) l, look ((k, x) :: l) i = (match beqN k i with | true => some x | false => look l i) from fun _ _ _ => rfl] at hx
    split at hx
    · rename_i he
      have := beqN_eq he
      subst this
      rw [updV_same] at hb
      rcases (hown b hb).2 with h1 | ⟨id, hid, h1⟩
      · exact .inr h1
      · obtain ⟨ex, s, hs⟩ := hold id hid
        exact .inl ⟨id, _, hs, by simp, h1⟩
    · rename_i he
      have hne : i ≠ m.next := fun e => by subst e; simp at he
      rw [updV_ne _ _ hne] at hb
      cases old with
      | none => exact .inl ⟨i, x, by simpa [goneOf] using hx, hg, hb⟩
      | some id =>
        simp only [goneOf, List.cons_append, List.nil_append, look] at hx
        split at hx
        · simp only [Option.some.injEq] at hx
          exact absurd hx.symm hg
        · exact .inl ⟨i, x, hx, hg, hb⟩

theorem src_ok {ks : List Kd} {y : SV} {s2 : Sl} (hM : SatM ρ R m w) (h : srcOf m ks y = some s2) {v : Value} (hy : Den ρ m.next y v) :
    s2.ks = ks ∧ ∃ a cap, v = .slice a s2.n cap ∧ (a = none → s2.n = 0) ∧ (s2.n = 0 ∧ a = none ∨ (∀ k ∈ ks, ∀ v, k ≠ .raw v)) ∧
      ∀ r, r < s2.n → ∃ ad, a = some ad ∧ RdKs w R s2.ks (s2.f r) (fun c => w.cell? (ad.add (r * s2.ks.length + c))) 0 := by
  unfold srcOf at h
  split at h
  · rename_i id
    split at h
    · rename_i s hs
      split at h
      · rename_i hk
        simp only [Option.some.injEq] at h
        subst h
        obtain ⟨hv, _, _⟩ := den_at hy
        rw [shift0] at hv
        obtain ⟨_, a, cap, hρ, _, _, hrd⟩ := sl_read hM hs
        have hks := kdsEq_ok _ _ hk
        refine ⟨hks, a, cap, by rw [hv, hρ], fun ha => ?_, .inr (hks ▸ kdsEq_scalar _ _ hk), hrd⟩
        subst ha
        rcases Nat.eq_zero_or_pos s.n with h0 | h0
        · exact h0
        · obtain ⟨ad, had, _⟩ := hrd 0 h0; cases had
      · cases h
    · cases h
  · simp only [Option.some.injEq] at h
    subst h
    exact ⟨rfl, none, 0, den_raw hy, fun _ => rfl, .inl ⟨rfl, rfl⟩, fun r hr => absurd hr (Nat.not_lt_zero _)⟩
  · cases h

include hE hM

theorem append_ok {a : Act} {o : Oper} {c : Call} (ho : o.op = .call c) (hc : c.callee = .builtin .append) {x y : Operand} {t : Nat} (hargs : c.args = #[x, y]) (hts : c.argTypes = #[t, t])
    {sx sy : SV} (hx : Den ρ m.next sx (a.eval x)) (hy : Den ρ m.next sy (a.eval y)) (hq : xappend E m t sx sy = some q) (hp : ∀ p, q.pre = some p → p)
    {K : Act → World → Prop} {Q : Exit → Act → World → Prop} (hk : ∀ v ρ' R' w', WOk ρ R m w q v ρ' R' w' → K (a.put o.dst v) w') : o.wpIn (Fw r) 0 P a w K Q := by
  have fin : ∀ (v : Value) (w' : World), (Builtin.append_ #[t, t] o.type #[a.eval x, a.eval y]).run P w = .ok v w' → (∃ ρ' R', WOk ρ R m w q v ρ' R' w') → o.wpIn (Fw r) 0 P a w K Q := by
    intro v w' hrun ⟨ρ', R', hw⟩
    refine wpIn_of_run (by rw [ho]; intro c; simp) (v := v) (w' := w') ?_ (hk _ _ _ _ hw)
    simp [execOp, ho, resolve, hc, hargs, hts, invoke, builtin, hrun]
  have hnx : ∀ (v' : Value), agree m.next ρ (updV ρ m.next v') := fun v' i hi => updV_ne _ _ (by omega)
  unfold xappend at hq
  split at hq
  · rename_i ag ks b e hty
    have hok := hE.T _ _ hty
    obtain ⟨hu, _, hpos⟩ := hok.dsl e rfl
    split at hq
    · rename_i ety hety
      obtain ⟨hk0, hb0⟩ := hpos ety hety
      obtain ⟨i, z, hi, his, hib, hz, hzc⟩ := (hE.T _ _ hety).info
      have hzs : z.cells.size = ety.ks.length := by rw [← Array.length_toList, hzc, List.length_map]
      split at hq
      · rename_i s2 hs2
        obtain ⟨hks2, a2, cap2, hv2, ha2, hraw, hrd2⟩ := src_ok hM hs2 hy
        split at hq
        · -- onto nil
          have hx' := den_raw hx
          simp only [Option.some.injEq] at hq
          have hb := hp _ (by rw [← hq])
          rw [hE.A] at hb
          simp only [Ar.std] at hb
          by_cases hn : s2.n = 0
          · have hrun : (Builtin.append_ #[t, t] o.type #[a.eval x, a.eval y]).run P w = .ok (.slice none 0 0) w := by
              rw [hx', hv2, hn]
              cases a2 with
              | none => exact run_append_none w t o.type e i hu hi none 0 0 cap2 (Nat.le_refl _)
              | some ad => simp [Builtin.append_, run_underlying hu, run_sizeOf' hi, Builtin.lenOf, Builtin.firstCells, loadCells, loadCellsFrom]
            refine fin _ _ hrun ⟨updV ρ m.next (.slice none 0 0), R, ?_⟩
            subst hq
            exact arr_wok hM ⟨rfl, rfl, rfl⟩ (old := none) (s' := ⟨ety.ks, s2.n, s2.f⟩) (fun _ h => by cases h) (Nat.le_refl _) (fun _ _ _ => rfl) (fun b h => by cases h) (.inl ⟨hn, rfl⟩)
          · obtain ⟨ad, had, _⟩ := hrd2 0 (by omega)
            subst had
            have hraw' : ∀ k ∈ ety.ks, ∀ v, k ≠ .raw v := hraw.resolve_left (fun h => by cases h.2)
            obtain ⟨news, hl, hcells, hone⟩ := rows_list (w := w) (R := R) (ks := ety.ks) (n := s2.n) (f := s2.f) (ad := ad) hraw' hk0 (fun r hr => by
              obtain ⟨ad', had', h⟩ := hrd2 r hr
              cases had'
              rw [hks2] at h
              exact h)
            have hnb : (s2.n : Int) ≤ (s2.n : Int) * (ety.bytes : Int) := by
              have h1 : (s2.n : Int) * 1 ≤ (s2.n : Int) * (ety.bytes : Int) := Int.mul_le_mul_of_nonneg_left (by omega) (by omega)
              simpa using h1
            have hmb : s2.n * i.bytes ≤ 281474976710656 := by
              rw [hib]
              have : ((s2.n * ety.bytes : Nat) : Int) ≤ 140737488355328 := by rw [Int.natCast_mul]; exact hb
              omega
            have hrun := run_append_nil (P := P) w t o.type e i z hu hi hz ad s2.n cap2 news (by rw [hl, his]) hcells (by omega) (by omega) hmb
            have hge := grownCap_ge w s2.n 0 e
            refine fin _ _ (by rw [hx', hv2]; exact hrun) ⟨updV ρ m.next (.slice (some ⟨w.heap.size, 0, none⟩) s2.n (grownCap w s2.n 0 e)), R, ?_⟩
            generalize hW : w.drew.alloc (.cells (news.toArray ++ Builtin.zeroCells z.cells (grownCap w s2.n 0 e - s2.n)) e) = w'
            have hg : Grow w w' := by rw [← hW]; exact (Grow.drew w).trans (Grow.alloc _ _)
            have hnew : w'.heap[w.heap.size]? = some (.cells (news.toArray ++ Builtin.zeroCells z.cells (grownCap w s2.n 0 e - s2.n)) e (0, 0)) := by
              rw [← hW]; exact qok_cells.World.alloc_heap_new' w.drew _
            have hcap : grownCap w s2.n 0 e ≤ maxLen := grownCap_le_maxLen w s2.n 0 e (by simp only [maxLen]; omega)
            subst hq
            refine arr_wok hM ⟨hg.os, hg.tape, hg.output⟩ (old := none) (s' := ⟨ety.ks, s2.n, s2.f⟩) (fun _ h => by cases h) hg.size (fun b hb _ => hg.keep b hb) (fun b h => ?_) (.inr ⟨w.heap.size, _, _, _, rfl, hge, hcap, hnew, ?_, ?_⟩)
            · simp only [ownB, Option.some.injEq] at h
              subst h
              exact ⟨(Array.getElem?_eq_some_iff.1 hnew).1, .inl (Nat.le_refl _)⟩
            · simp only [Array.size_append, List.size_toArray, hl, size_zeroCells, hzs, ← Nat.add_mul]
              congr 1; omega
            · intro r hr
              have hr : r < s2.n := hr
              obtain ⟨ad', had', h⟩ := hrd2 r hr
              cases had'
              rw [hks2] at h
              show RdKs w' R ety.ks (s2.f r) (fun c => (news.toArray ++ Builtin.zeroCells z.cells (grownCap w s2.n 0 e - s2.n))[r * ety.ks.length + c]?) 0
              refine RdKs_mono (w := w) (R := R) (fun b hb => hg.keep b (hM.Rlt b hb)) (fun _ h => h) _ _ _ _ 0 (fun _ => rfl) (rdKs_ext _ 0 h (fun _ _ => rfl) (fun c hc => ?_))
              have hlt : r * ety.ks.length + c < news.length := by
                rw [hl]
                have : (r + 1) * ety.ks.length ≤ s2.n * ety.ks.length := Nat.mul_le_mul_right _ hr
                rw [Nat.add_mul, Nat.one_mul] at this; omega
              rw [Array.getElem?_append_left (by simpa using hlt), List.getElem?_toArray, List.getElem?_eq_getElem hlt]
              exact (hcells _ _ (List.getElem?_eq_getElem hlt)).symm
        · -- onto what is owned
          rename_i id
          split at hq
          · rename_i ex s hro hs
            split at hq
            · rename_i hc2
              simp only [Bool.and_eq_true] at hc2
              have hks1 := kdsEq_ok _ _ hc2.1
              obtain ⟨hx', hid, _⟩ := den_at hx
              rw [shift0] at hx'
              simp only [Option.some.injEq] at hq
              have hb := hp _ (by rw [← hq])
              rw [hE.A] at hb hq
              simp only [Ar.std] at hb hq
              have hraw' : ∀ k ∈ ety.ks, ∀ v, k ≠ .raw v := hks1 ▸ kdsEq_scalar _ _ hc2.1
              have hnb : ((s.n + s2.n : Nat) : Int) ≤ ((s.n + s2.n : Nat) : Int) * (ety.bytes : Int) := by
                have h1 : ((s.n + s2.n : Nat) : Int) * 1 ≤ ((s.n + s2.n : Nat) : Int) * (ety.bytes : Int) := Int.mul_le_mul_of_nonneg_left (by omega) (by omega)
                simpa using h1
              have hnat : (s.n + s2.n) * ety.bytes ≤ 140737488355328 := by
                have : (((s.n + s2.n) * ety.bytes : Nat) : Int) ≤ 140737488355328 := by rw [Int.natCast_mul]; exact hb
                omega
              have hml : s.n + s2.n ≤ maxLen := by simp only [maxLen]; omega
              obtain ⟨_, hres⟩ := hM.mem _ _ hs
              have hold : ∀ id', some id = some id' → ∃ ex s, look m.mem id' = some (.arr ex s) := fun id' h => by cases h; exact ⟨_, _, hs⟩
              -- the news
              have hnews : ∃ news : List Value, news.length = s2.n * ety.ks.length ∧ (∀ u ∈ news, u.oneCell' = true) ∧
                  (∀ ad, a2 = some ad → ∀ (j : Nat) (u : Value), news[j]? = some u → w.cell? (ad.add j) = some u) ∧
                  (∀ r, r < s2.n → RdKs w R ety.ks (s2.f r) (fun c => news[r * ety.ks.length + c]?) 0) := by
                cases a2 with
                | none => exact ⟨[], by simp [ha2 rfl], by simp, (fun _ h => by cases h), (fun r hr => by rw [ha2 rfl] at hr; omega)⟩
                | some ad =>
                  have hrows : ∀ r, r < s2.n → RdKs w R ety.ks (s2.f r) (fun c => w.cell? (ad.add (r * ety.ks.length + c))) 0 := fun r hr => by
                    obtain ⟨ad', had', h⟩ := hrd2 r hr
                    cases had'
                    rw [hks2] at h
                    exact h
                  obtain ⟨news, hl, hcells, hone⟩ := rows_list (w := w) (R := R) hraw' hk0 hrows
                  refine ⟨news, hl, hone, fun ad' h => by cases h; exact hcells, fun r hr => rdKs_ext _ 0 (hrows r hr) (fun _ _ => rfl) (fun c hc => ?_)⟩
                  have hlt : r * ety.ks.length + c < news.length := by
                    rw [hl]
                    have : (r + 1) * ety.ks.length ≤ s2.n * ety.ks.length := Nat.mul_le_mul_right _ hr
                    rw [Nat.add_mul, Nat.one_mul] at this; omega
                  rw [List.getElem?_eq_getElem hlt]
                  exact (hcells _ _ (List.getElem?_eq_getElem hlt)).symm
              obtain ⟨news, hl, hone, hcells, hnrd⟩ := hnews
              -- the rows behind it
              have rows : ∀ (w' : World) (cur' : Array Value), (∀ b, R b → w'.heap[b]? = w.heap[b]?) → (∀ rr, rr < s.n → RdKs w R ety.ks (s.f rr) (fun c => cur'[rr * ety.ks.length + c]?) 0) →
                  (∀ j, j < news.length → cur'[s.n * ety.ks.length + j]? = news[j]?) → RowOk w' R ⟨ety.ks, s.n + s2.n, fun r c => if r < s.n then s.f r c else s2.f (r - s.n) c⟩ cur' := by
                intro w' cur' hkR h1 h2 rr hrr
                have hrr : rr < s.n + s2.n := hrr
                show RdKs w' R ety.ks (fun c => if rr < s.n then s.f rr c else s2.f (rr - s.n) c) (fun c => cur'[rr * ety.ks.length + c]?) 0
                refine RdKs_mono (w := w) (R := R) hkR (fun _ h => h) _ _ _ _ 0 (fun _ => rfl) ?_
                by_cases hlt : rr < s.n
                · exact rdKs_ext _ 0 (h1 rr hlt) (fun _ _ => if_pos hlt) (fun _ _ => rfl)
                · refine rdKs_ext _ 0 (hnrd (rr - s.n) (by omega)) (fun _ _ => if_neg hlt) (fun c hc => ?_)
                  have e1 : rr * ety.ks.length + c = s.n * ety.ks.length + ((rr - s.n) * ety.ks.length + c) := by
                    rw [← Nat.add_assoc, ← Nat.add_mul]; congr 2; omega
                  have e2 : (rr - s.n) * ety.ks.length + c < news.length := by
                    rw [hl]
                    have : (rr - s.n + 1) * ety.ks.length ≤ s2.n * ety.ks.length := Nat.mul_le_mul_right _ (by omega)
                    rw [Nat.add_mul, Nat.one_mul] at this; omega
                  rw [e1, h2 _ e2]
              rcases hres with ⟨hn0, hρ⟩ | ⟨bb, cap, cur, tt, hρ, h1, h2, h3, hh, hsz, hrow⟩
              · -- it was nil
                by_cases hn : s2.n = 0
                · have hrun : (Builtin.append_ #[t, t] o.type #[a.eval x, a.eval y]).run P w = .ok (.slice none 0 0) w := by
                    rw [hx', hρ, hv2, hn]
                    cases a2 with
                    | none => exact run_append_none w t o.type e i hu hi none 0 0 cap2 (Nat.le_refl _)
                    | some ad => simp [Builtin.append_, run_underlying hu, run_sizeOf' hi, Builtin.lenOf, Builtin.firstCells, loadCells, loadCellsFrom]
                  refine fin _ _ hrun ⟨updV ρ m.next (.slice none 0 0), R, ?_⟩
                  subst hq
                  exact arr_wok hM ⟨rfl, rfl, rfl⟩ (old := some id) hold (Nat.le_refl _) (fun _ _ _ => rfl) (fun b h => by cases h) (.inl ⟨by simp [hn0, hn], rfl⟩)
                · cases a2 with
                  | none => exact absurd (ha2 rfl) hn
                  | some ad =>
                    have hmb : s2.n * i.bytes ≤ 281474976710656 := by
                      rw [hib]; rw [hn0, Nat.zero_add] at hnat; omega
                    have hrun := run_append_nil (P := P) w t o.type e i z hu hi hz ad s2.n cap2 news (by rw [hl, his]) (hcells ad rfl) (by omega) (by have := hml; simp only [maxLen] at this; omega) hmb
                    have hge := grownCap_ge w s2.n 0 e
                    refine fin _ _ (by rw [hx', hρ, hv2]; exact hrun) ⟨updV ρ m.next (.slice (some ⟨w.heap.size, 0, none⟩) s2.n (grownCap w s2.n 0 e)), R, ?_⟩
                    generalize hW : w.drew.alloc (.cells (news.toArray ++ Builtin.zeroCells z.cells (grownCap w s2.n 0 e - s2.n)) e) = w'
                    have hg : Grow w w' := by rw [← hW]; exact (Grow.drew w).trans (Grow.alloc _ _)
                    have hnew : w'.heap[w.heap.size]? = some (.cells (news.toArray ++ Builtin.zeroCells z.cells (grownCap w s2.n 0 e - s2.n)) e (0, 0)) := by
                      rw [← hW]; exact qok_cells.World.alloc_heap_new' w.drew _
                    have hcap : grownCap w s2.n 0 e ≤ maxLen := grownCap_le_maxLen w s2.n 0 e (by omega)
                    subst hq
                    refine arr_wok hM ⟨hg.os, hg.tape, hg.output⟩ (old := some id) hold hg.size (fun b hb _ => hg.keep b hb) (fun b h => ?_) (.inr ⟨w.heap.size, grownCap w s2.n 0 e, _, e, by simp [hn0], by show s.n + s2.n ≤ _; omega, hcap, hnew, ?_, ?_⟩)
                    · simp only [ownB, Option.some.injEq] at h
                      subst h
                      exact ⟨(Array.getElem?_eq_some_iff.1 hnew).1, .inl (Nat.le_refl _)⟩
                    · simp only [Array.size_append, List.size_toArray, hl, size_zeroCells, hzs, ← Nat.add_mul]
                      congr 1; omega
                    · refine rows w' _ (fun b hb => hg.keep b (hM.Rlt b hb)) (fun rr hrr => by omega) (fun j hj => ?_)
                      rw [hn0, Nat.zero_mul, Nat.zero_add, Array.getElem?_append_left (by simpa using hj), List.getElem?_toArray]
              · have hxv : a.eval x = .slice (some ⟨bb, 0, none⟩) s.n cap := by rw [hx', hρ]
                have holdRow : ∀ rr, rr < s.n → RdKs w R ety.ks (s.f rr) (fun c => cur[rr * ety.ks.length + c]?) 0 := fun rr hrr => by
                  have := hrow rr hrr
                  rw [hks1] at this
                  exact this
                rw [hks1] at hsz
                have hownB : ownB (ρ id) = some bb := by rw [hρ]; rfl
                by_cases hroom : s.n + s2.n ≤ cap
                · -- there is room
                  have hrun : ∃ cur', (Builtin.append_ #[t, t] o.type #[a.eval x, a.eval y]).run P w = .ok (.slice (some ⟨bb, 0, none⟩) (s.n + s2.n) cap) (w.setRow bb cur') ∧
                      cur'.size = cur.size ∧ (∀ k, k < s.n * ety.ks.length → cur'[k]? = cur[k]?) ∧ (∀ j, j < news.length → cur'[s.n * ety.ks.length + j]? = news[j]?) := by
                    cases a2 with
                    | none =>
                      have h0 := ha2 rfl
                      have hn0 : news = [] := List.length_eq_zero_iff.1 (by rw [hl, h0, Nat.zero_mul])
                      refine ⟨cur, ?_, rfl, fun _ _ => rfl, fun j hj => by rw [hn0] at hj; simp at hj⟩
                      rw [hxv, hv2, h0, run_append_none w t o.type e i hu hi (some ⟨bb, 0, none⟩) s.n cap cap2 h1, setRow_self w bb cur tt (0, 0) hh]
                      simp
                    | some ad =>
                      have hfit : s.n * i.size + news.length ≤ cur.size := by
                        rw [hl, his, hsz, ← Nat.add_mul]; exact Nat.mul_le_mul_right _ hroom
                      have hfit' : s.n * ety.ks.length + news.length ≤ cur.size := by rw [← his]; exact hfit
                      have hr := run_append_room' (P := P) w t o.type e i hu hi bb s.n cap cur tt hh ad s2.n cap2 news (by rw [hl, his]) (hcells ad rfl) hone hroom hfit
                      refine ⟨_, by rw [hxv, hv2]; exact hr, ?_, ?_, ?_⟩
                      · simp; omega
                      · intro k hk
                        rw [his]
                        simp only [List.getElem?_toArray]
                        rw [List.append_assoc, List.getElem?_append_left (by simp; omega), List.getElem?_take, if_pos hk]
                        simp
                      · intro j hj
                        rw [his]
                        have htl : (cur.toList.take (s.n * ety.ks.length)).length = s.n * ety.ks.length := by
                          simp; omega
                        simp only [List.getElem?_toArray]
                        rw [List.getElem?_append_left (by simp [htl]; omega), List.getElem?_append_right (by omega), htl, Nat.add_sub_cancel_left]
                  obtain ⟨cur', hrun, hsz', hlo, hhi⟩ := hrun
                  refine fin _ _ hrun ⟨updV ρ m.next (.slice (some ⟨bb, 0, none⟩) (s.n + s2.n) cap), R, ?_⟩
                  have hext := setRow_ext hM hs (by simp) hownB cur'
                  subst hq
                  refine arr_wok hM (w' := w.setRow bb cur') ⟨rfl, rfl, rfl⟩ (old := some id) hold (by simp) (fun b hb h => setRow_other w bb b _ (fun e => h id rfl (by rw [hownB, e]))) (fun b h => ?_) (.inr ⟨bb, cap, cur', tt, rfl, hroom, h3, setRow_heap w bb cur cur' tt _ hh, by rw [hsz', hsz], ?_⟩)
                  · simp only [ownB, Option.some.injEq] at h
                    subst h
                    exact ⟨by simp; exact (Array.getElem?_eq_some_iff.1 hh).1, .inr ⟨id, rfl, hownB⟩⟩
                  · refine rows _ _ hext.keep (fun rr hrr => rdKs_ext _ 0 (holdRow rr hrr) (fun _ _ => rfl) (fun c hc => hlo _ ?_)) hhi
                    have : (rr + 1) * ety.ks.length ≤ s.n * ety.ks.length := Nat.mul_le_mul_right _ hrr
                    rw [Nat.add_mul, Nat.one_mul] at this; omega
                · -- it grows
                  cases a2 with
                  | none => exact absurd (by rw [ha2 rfl]; simpa using h1) hroom
                  | some ad =>
                    have holdsz : s.n * ety.ks.length ≤ cur.size := by rw [hsz]; exact Nat.mul_le_mul_right _ h1
                    have hrun := run_append_grow (P := P) w t o.type e i z hu hi hz ⟨bb, 0, none⟩ s.n cap (cur.toList.take (s.n * i.size)) (by rw [his]; simp; omega) (fun j v hv => by
                      rw [add0, cell_of_row w bb j cur tt (0, 0) hh]
                      rw [List.getElem?_take] at hv
                      split at hv
                      · simpa using hv
                      · cases hv) ad s2.n cap2 news (by rw [hl, his]) (hcells ad rfl) (by omega) (by omega) (growslice_fits (by omega) (by rw [hib]; exact hnat))
                    rw [his] at hrun
                    have hge := grownCap_ge w (s.n + s2.n) cap e
                    have hcap' : grownCap w (s.n + s2.n) cap e ≤ maxLen := grownCap_le_maxLen w _ _ e hml
                    refine fin _ _ (by rw [hxv, hv2]; exact hrun) ⟨updV ρ m.next (.slice (some ⟨w.heap.size, 0, none⟩) (s.n + s2.n) (grownCap w (s.n + s2.n) cap e)), R, ?_⟩
                    generalize hcur' : (cur.toList.take (s.n * ety.ks.length)).toArray ++ news.toArray ++ Builtin.zeroCells z.cells (grownCap w (s.n + s2.n) cap e - (s.n + s2.n)) = cur'
                    generalize hW : w.drew.alloc (.cells cur' e) = w'
                    have hg : Grow w w' := by rw [← hW]; exact (Grow.drew w).trans (Grow.alloc _ _)
                    have hnew : w'.heap[w.heap.size]? = some (.cells cur' e (0, 0)) := by
                      rw [← hW]; exact qok_cells.World.alloc_heap_new' w.drew _
                    have htl : (cur.toList.take (s.n * ety.ks.length)).length = s.n * ety.ks.length := by simp; omega
                    subst hq
                    refine arr_wok hM ⟨hg.os, hg.tape, hg.output⟩ (old := some id) hold hg.size (fun b hb _ => hg.keep b hb) (fun b h => ?_) (.inr ⟨w.heap.size, _, cur', e, rfl, hge, hcap', hnew, ?_, ?_⟩)
                    · simp only [ownB, Option.some.injEq] at h
                      subst h
                      exact ⟨(Array.getElem?_eq_some_iff.1 hnew).1, .inl (Nat.le_refl _)⟩
                    · rw [← hcur']
                      simp only [Array.size_append, List.size_toArray, htl, hl, size_zeroCells, hzs, ← Nat.add_mul]
                      congr 1; omega
                    · refine rows w' cur' (fun b hb => hg.keep b (hM.Rlt b hb)) (fun rr hrr => rdKs_ext _ 0 (holdRow rr hrr) (fun _ _ => rfl) (fun c hc => ?_)) (fun j hj => ?_)
                      · have hlt : rr * ety.ks.length + c < s.n * ety.ks.length := by
                          have : (rr + 1) * ety.ks.length ≤ s.n * ety.ks.length := Nat.mul_le_mul_right _ hrr
                          rw [Nat.add_mul, Nat.one_mul] at this; omega
                        rw [← hcur', Array.append_assoc, Array.getElem?_append_left (by rw [List.size_toArray, htl]; exact hlt), List.getElem?_toArray, List.getElem?_take, if_pos hlt]
                        simp
                      · rw [← hcur', Array.getElem?_append_left (by simp only [Array.size_append, List.size_toArray, htl]; omega), Array.getElem?_append_right (by rw [List.size_toArray, htl]; omega), List.size_toArray, htl, Nat.add_sub_cancel_left, List.getElem?_toArray]
            · cases hq
          · cases hq
        · cases hq
      · cases hq
    · cases hq
  · cases hq
end
end SX

/-
  SX: append onto an empty slice that was made here, as a quiet operation: what it yields is only read.
-/
namespace SX
open Go

def xappq (E : Env) (m : Mm) (t : Nat) (x y : SV) : Option QR :=
  match E.T t with
  | some ⟨_, _, _, .slice e⟩ => match E.T e with
    | some ety => match srcOf m ety.ks y with
      | some s2 => match x with
        | .raw (.slice none 0 0) => some ⟨some (E.A.le (E.A.mul (E.A.nat s2.n) (E.A.nat ety.bytes)) 140737488355328), .at m.next 0, [], [(m.next, ⟨ety.ks, s2.n, s2.f⟩)], m.next + 1⟩
        | .at id 0 => match look m.mem id with
          | some (.arr true ⟨_, 0, _⟩) => some ⟨some (E.A.le (E.A.mul (E.A.nat s2.n) (E.A.nat ety.bytes)) 140737488355328), .at m.next 0, [], [(m.next, ⟨ety.ks, s2.n, s2.f⟩)], m.next + 1⟩
          | _ => none
        | _ => none
      | none => none
    | none => none
  | _ => none

/-- A quiet operation, or such an append. -/
def xqd (E : Env) (m : Mm) (ev : Operand → SV) (op : Op) : Option QR :=
  match xq E m ev op with
  | some q => some q
  | none => match op with
    | .call c => match c.callee with
      | .builtin .append => match c.args.toList, c.argTypes.toList with
        | [x, y], [t, t'] => match beqN t t' with
          | true => xappq E m t (ev x) (ev y)
          | false => none
        | _, _ => none
      | _ => none
    | _ => none

section
variable {P : Program} {E : Env} (hE : EnvOk E P) {r : Option Nat} {ρ : Nat → Value} {R : Nat → Prop} {m : Mm} {w : World} (hM : SatM ρ R m w) {q : QR}
include hE hM

theorem appq_ok {a : Act} {o : Oper} {c : Call} (ho : o.op = .call c) (hc : c.callee = .builtin .append) {x y : Operand} {t : Nat} (hargs : c.args = #[x, y]) (hts : c.argTypes = #[t, t])
    {sx sy : SV} (hx : Den ρ m.next sx (a.eval x)) (hy : Den ρ m.next sy (a.eval y)) (hq : xappq E m t sx sy = some q) (hp : ∀ p, q.pre = some p → p)
    {K : Act → World → Prop} {Q : Exit → Act → World → Prop} (hk : ∀ v ρ' R' w', QOk ρ R m w q v ρ' R' w' → K (a.put o.dst v) w') : o.wpIn (Fw r) 0 P a w K Q := by
  have fin : ∀ (v : Value) (w' : World), (Builtin.append_ #[t, t] o.type #[a.eval x, a.eval y]).run P w = .ok v w' → (∃ ρ' R', QOk ρ R m w q v ρ' R' w') → o.wpIn (Fw r) 0 P a w K Q := by
    intro v w' hrun ⟨ρ', R', hw⟩
    refine wpIn_of_run (by rw [ho]; intro c; simp) (v := v) (w' := w') ?_ (hk _ _ _ _ hw)
    simp [execOp, ho, resolve, hc, hargs, hts, invoke, builtin, hrun]
  unfold xappq at hq
  split at hq
  · rename_i ag ks b e hty
    have hok := hE.T _ _ hty
    obtain ⟨hu, _, hpos⟩ := hok.dsl e rfl
    split at hq
    · rename_i ety hety
      obtain ⟨hk0, hb0⟩ := hpos ety hety
      obtain ⟨i, z, hi, his, hib, hz, hzc⟩ := (hE.T _ _ hety).info
      have hzs : z.cells.size = ety.ks.length := by rw [← Array.length_toList, hzc, List.length_map]
      split at hq
      · rename_i s2 hs2
        obtain ⟨hks2, a2, cap2, hv2, ha2, hraw, hrd2⟩ := src_ok hM hs2 hy
        -- what is appended to is empty, and has no room
        have key : ∀ (ax : Option Addr), a.eval x = .slice ax 0 0 → some q = some ⟨some (E.A.le (E.A.mul (E.A.nat s2.n) (E.A.nat ety.bytes)) 140737488355328), .at m.next 0, [], [(m.next, ⟨ety.ks, s2.n, s2.f⟩)], m.next + 1⟩ → o.wpIn (Fw r) 0 P a w K Q := by
          intro ax hx' hq
          simp only [Option.some.injEq] at hq
          have hb := hp _ (by rw [hq])
          rw [hE.A] at hb
          simp only [Ar.std] at hb
          by_cases hn : s2.n = 0
          · have hrun : (Builtin.append_ #[t, t] o.type #[a.eval x, a.eval y]).run P w = .ok (.slice ax 0 0) w := by
              rw [hx', hv2, hn]
              cases a2 with
              | none => exact run_append_none w t o.type e i hu hi ax 0 0 cap2 (Nat.le_refl _)
              | some ad => cases ax <;> simp [Builtin.append_, run_underlying hu, run_sizeOf' hi, Builtin.lenOf, Builtin.firstCells, loadCells, loadCellsFrom, storeCells]
            refine fin _ _ hrun ⟨updV ρ m.next (.slice ax 0 0), R, ?_⟩
            subst hq
            refine ⟨Den.mk (by simp only [den, updV_same, shiftV]) ⟨Nat.lt_succ_self _, by rw [updV_same]; rfl⟩, fun i hi => updV_ne _ _ (by simp at hi; omega), Nat.le_succ _, Grow.refl w, fun _ h => h, fun _ h => .inl h,
              fun _ _ h => by simp [look] at h, fun _ _ _ _ h => by simp [look] at h, fun id s h => ?_⟩
            simp only [look] at h
            split at h
            · rename_i hb'
              have := beqN_eq hb'
              subst this
              simp only [Option.some.injEq] at h
              subst h
              refine ⟨⟨Nat.le_refl _, Nat.lt_succ_self _⟩, ?_⟩
              simp only [RdK, D.ofL, D.n, updV_same, hn]
              exact ⟨ax, 0, rfl, Nat.le_refl _, by simp [maxLen], fun r hr => absurd hr (Nat.not_lt_zero _)⟩
            · cases h
          · obtain ⟨ad, had, _⟩ := hrd2 0 (by omega)
            subst had
            have hraw' : ∀ k ∈ ety.ks, ∀ v, k ≠ .raw v := hraw.resolve_left (fun h => by cases h.2)
            obtain ⟨news, hl, hcells, hone⟩ := rows_list (w := w) (R := R) (ks := ety.ks) (n := s2.n) (f := s2.f) (ad := ad) hraw' hk0 (fun r hr => by
              obtain ⟨ad', had', h⟩ := hrd2 r hr
              cases had'
              rw [hks2] at h
              exact h)
            have hnb : (s2.n : Int) ≤ (s2.n : Int) * (ety.bytes : Int) := by
              have h1 : (s2.n : Int) * 1 ≤ (s2.n : Int) * (ety.bytes : Int) := Int.mul_le_mul_of_nonneg_left (by omega) (by omega)
              simpa using h1
            have hnat : s2.n * ety.bytes ≤ 140737488355328 := by
              have : ((s2.n * ety.bytes : Nat) : Int) ≤ 140737488355328 := by rw [Int.natCast_mul]; exact hb
              omega
            have hmb : s2.n * i.bytes ≤ 281474976710656 := by rw [hib]; omega
            have done : ∀ (cap : Nat) (cur : Array Value), (Builtin.append_ #[t, t] o.type #[a.eval x, a.eval y]).run P w = .ok (.slice (some ⟨w.heap.size, 0, none⟩) s2.n cap) (w.drew.alloc (.cells cur e)) →
                s2.n ≤ cap → cap ≤ maxLen → (∀ j, j < news.length → cur[j]? = news[j]?) → o.wpIn (Fw r) 0 P a w K Q := by
              intro cap cur hrun hge hcap hcur
              refine fin _ _ hrun ⟨updV ρ m.next (.slice (some ⟨w.heap.size, 0, none⟩) s2.n cap), fun b => R b ∨ b = w.heap.size, ?_⟩
              generalize hW : w.drew.alloc (.cells cur e) = w'
              have hg : Grow w w' := by rw [← hW]; exact (Grow.drew w).trans (Grow.alloc _ _)
              have hnew : w'.heap[w.heap.size]? = some (.cells cur e (0, 0)) := by
                rw [← hW]; exact qok_cells.World.alloc_heap_new' w.drew _
              have hlt := (Array.getElem?_eq_some_iff.1 hnew).1
              subst hq
              refine ⟨Den.mk (by simp only [den, updV_same, shiftV]) ⟨Nat.lt_succ_self _, by rw [updV_same]; rfl⟩, fun i hi => updV_ne _ _ (by simp at hi; omega), Nat.le_succ _, hg, fun _ h => .inl h, fun b h => h.imp id fun h => ⟨by omega, by omega⟩,
                fun _ _ h => by simp [look] at h, fun _ _ _ _ h => by simp [look] at h, fun id s h => ?_⟩
              simp only [look] at h
              split at h
              · rename_i hb'
                have := beqN_eq hb'
                subst this
                simp only [Option.some.injEq] at h
                subst h
                refine ⟨⟨Nat.le_refl _, Nat.lt_succ_self _⟩, ?_⟩
                simp only [RdK, D.ofL, D.n, D.row, updV_same]
                refine ⟨_, cap, rfl, hge, hcap, fun r hr => ⟨_, rfl, .inr rfl, ?_⟩⟩
                obtain ⟨ad', had', h⟩ := hrd2 r hr
                cases had'
                rw [hks2] at h
                refine RdKs_mono (w := w) (R := R) (fun b hb => hg.keep b (hM.Rlt b hb)) (fun _ h => .inl h) _ _ _ _ 0 (fun _ => rfl) (rdKs_ext _ 0 h (fun _ _ => rfl) (fun c hc => ?_))
                have hlt' : r * ety.ks.length + c < news.length := by
                  rw [hl]
                  have : (r + 1) * ety.ks.length ≤ s2.n * ety.ks.length := Nat.mul_le_mul_right _ hr
                  rw [Nat.add_mul, Nat.one_mul] at this; omega
                rw [add0, cell_of_row w' _ _ cur e (0, 0) hnew, hcur _ hlt', List.getElem?_eq_getElem hlt']
                exact (hcells _ _ (List.getElem?_eq_getElem hlt')).symm
              · cases h
            cases ax with
            | none =>
              have hrun := run_append_nil (P := P) w t o.type e i z hu hi hz ad s2.n cap2 news (by rw [hl, his]) hcells (by omega) (by omega) hmb
              refine done _ _ (by rw [hx', hv2]; exact hrun) (grownCap_ge w s2.n 0 e) (grownCap_le_maxLen w s2.n 0 e (by simp only [maxLen]; omega)) (fun j hj => ?_)
              rw [Array.getElem?_append_left (by simpa using hj), List.getElem?_toArray]
            | some bb =>
              have hrun := run_append_grow (P := P) w t o.type e i z hu hi hz bb 0 0 [] (by simp) (fun j v hv => by simp at hv) ad s2.n cap2 news (by rw [hl, his]) (hcells) (by omega) (by omega) (growslice_fits (by omega) (by rw [hib, Nat.zero_add]; exact hnat))
              simp only [Nat.zero_add] at hrun
              refine done _ _ (by rw [hx', hv2]; exact hrun) (grownCap_ge w s2.n 0 e) (grownCap_le_maxLen w s2.n 0 e (by simp only [maxLen]; omega)) (fun j hj => ?_)
              rw [Array.getElem?_append_left (by simpa using hj), Array.getElem?_append_right (by simp)]
              simp
        split at hq
        · exact key none (den_raw hx) hq.symm
        · rename_i id
          split at hq
          · rename_i ks0 f0 hs
            obtain ⟨hx', hid, _⟩ := den_at hx
            rw [shift0] at hx'
            obtain ⟨_, hres⟩ := hM.mem _ _ hs
            rcases hres with ⟨hn0, hρ⟩ | ⟨bb, cap, cur, tt, hρ, h1, h2, h3, hh, hsz, hrow⟩
            · exact key none (by rw [hx', hρ]) hq.symm
            · have : cap = 0 := h2 rfl
              exact key (some ⟨bb, 0, none⟩) (by rw [hx', hρ, this]) hq.symm
          · cases hq
        · cases hq
      · cases hq
    · cases hq
  · cases hq

theorem xqd_ok {a : Act} {o : Oper} {ev : Operand → SV} (hev : ∀ x, Den ρ m.next (ev x) (a.eval x)) (hq : xqd E m ev o.op = some q) (hp : ∀ p, q.pre = some p → p)
    {K : Act → World → Prop} {Q : Exit → Act → World → Prop} (hk : ∀ v ρ' R' w', QOk ρ R m w q v ρ' R' w' → K (a.put o.dst v) w') : o.wpIn (Fw r) 0 P a w K Q := by
  unfold xqd at hq
  split at hq
  · rename_i q' hq'
    simp only [Option.some.injEq] at hq
    subst hq
    exact xq_ok hE hM hev hq' hp hk
  · split at hq
    · rename_i c ho
      split at hq
      · rename_i hc
        split at hq
        · rename_i x y t t' hargs hts
          split at hq
          · rename_i ht
            have ht : t = t' := by simpa using ht
            subst ht
            exact appq_ok hE hM ho hc (x := x) (y := y) (t := t) (by apply Array.ext'; simpa using hargs) (by apply Array.ext'; simpa using hts) (hev x) (hev y) hq hp hk
          · cases hq
        · cases hq
      · cases hq
    · cases hq
end
end SX

/-
  SX: the executor on code, and that what it says holds.
-/
namespace SX
open Go

/-- How a later state stands to an earlier one. -/
structure Rel (lo : Nat) (ρ0 : Nat → Value) (R0 O0 : Nat → Prop) (w0 : World) (ρ : Nat → Value) (R O : Nat → Prop) (w : World) (nx : Nat) : Prop where
  fr : Fr O0 w0 O w
  sub : ∀ b, R0 b → R b
  ag : agree lo ρ0 ρ
  le : lo ≤ nx
  rn : ∀ b, R b → R0 b ∨ O0 b ∨ w0.heap.size ≤ b

theorem Rel.refl {lo : Nat} {ρ : Nat → Value} {R O : Nat → Prop} {w : World} {nx : Nat} (h : lo ≤ nx) : Rel lo ρ R O w ρ R O w nx := ⟨Fr.refl _ _, fun _ h => h, agree.refl _ _, h, fun _ h => .inl h⟩
theorem Rel.trans {lo lo' : Nat} {ρ0 ρ1 ρ2 : Nat → Value} {R0 R1 R2 O0 O1 O2 : Nat → Prop} {w0 w1 w2 : World} {n1 n2 : Nat} (h : Rel lo ρ0 R0 O0 w0 ρ1 R1 O1 w1 n1) (k : Rel lo' ρ1 R1 O1 w1 ρ2 R2 O2 w2 n2) (hl : lo ≤ lo') :
    Rel lo ρ0 R0 O0 w0 ρ2 R2 O2 w2 n2 :=
  ⟨h.fr.trans k.fr, fun b hb => k.sub b (h.sub b hb), h.ag.trans (k.ag.mono hl), Nat.le_trans hl k.le, fun b hb => by
    rcases k.rn b hb with h1 | h1 | h1
    · exact h.rn b h1
    · exact .inr (h.fr.own b h1)
    · exact .inr (.inr (Nat.le_trans h.fr.size h1))⟩

theorem QOk.fr {ρ ρ' : Nat → Value} {R R' : Nat → Prop} {m : Mm} {w w' : World} {q : QR} {v : Value} (hM : SatM ρ R m w) (h : QOk ρ R m w q v ρ' R' w') : Fr (Owns ρ m) w (Owns ρ' (addM m q)) w' := by
  refine ⟨h.grow.os, h.grow.tape, h.grow.output, h.grow.size, fun b hb _ => h.grow.keep b hb, ?_⟩
  rintro b ⟨id, x, hx, hg, hb⟩
  simp only [addM, look_append] at hx
  split at hx
  · rename_i y hy
    exact .inr ((h.mem id y hy).2.2 b hb).1
  · rw [h.ag id (.inl (hM.mem id x hx).1)] at hb
    exact .inl ⟨id, x, hx, hg, hb⟩

theorem Fr.less {O O1 O2 : Nat → Prop} {w w1 : World} (h : Fr O w O1 w1) (k : ∀ b, O2 b → O1 b) : Fr O w O2 w1 := ⟨h.os, h.tape, h.output, h.size, h.keep, fun b hb => h.own b (k b hb)⟩

def post (lo : Nat) (ρ0 : Nat → Value) (R0 O0 : Nat → Prop) (w0 : World) (Q : Exit → St → Prop) : Exit → Act → World → Prop :=
  fun e a w => ∃ ρ R S, Sat ρ R S a w ∧ a.defers = [] ∧ Rel lo ρ0 R0 O0 w0 ρ R (Owns ρ S.m) w S.m.next ∧ Q e S

/-- THE MEANING of 'from the state S the code c comes to Q'. -/
def SWP (P : Program) (r : Option Nat) (lo : Nat) (c : Code) (Q : Exit → St → Prop) (S : St) : Prop :=
  ∀ ρ R a w, Sat ρ R S a w → a.defers = [] → lo ≤ S.m.next → c.wpIn (Fw r) 0 P (post lo ρ R (Owns ρ S.m) w Q) a w

structure Leaf (P : Program) (r : Option Nat) (lo : Nat) (c : Code) (Q : Exit → St → Prop) (S : St) : Prop where
  out : SWP P r lo c Q S

structure Br (p : Prop) (t e : Unit → Prop) : Prop where
  t : p → t ()
  e : ¬ p → e ()

structure StuckO (o : Oper) (regs : List (Nat × SV)) (m : Mm) : Prop where
  out : False

structure StuckC (c : Code) (S : St) : Prop where
  out : False

def tcond (p : Option Prop) (k : Prop) : Prop :=
  match p with
  | none => k
  | some p => p ∧ k

def putR (regs : List (Nat × SV)) (dst : Option Nat) (v : SV) : List (Nat × SV) :=
  match dst with
  | some d => (d, v) :: regs
  | none => regs

def dstOk (nt : Nat) : Option Nat → Bool
  | none => true
  | some d => bltN d nt

def calleeOf (ev : Operand → SV) : Op → Option (Nat × List SV)
  | .call c => match c.callee with
    | .value x => match ev x with
      | .raw (.func (.func f) ⟨[]⟩ ⟨[]⟩) => some (f, c.args.toList.map ev)
      | .fn (.func f) a b => some (f, a ++ c.args.toList.map ev ++ b)
      | _ => none
    | _ => none
  | _ => none

abbrev CI := Func → List SV → Mm → (SV → Mm → Prop) → Prop

def stepOp (E : Env) (ci : CI) (o : Oper) (S : St) (K : St → Prop) : Prop :=
  match dstOk S.nt o.dst with
  | false => StuckO o S.regs S.m
  | true =>
    match frzL S.m (wants E (evR S.regs) o.op) with
    | m => match xq E m (evR S.regs) o.op with
      | some q => tcond q.pre (K ⟨S.nt, putR S.regs o.dst q.sv, addM m q⟩)
      | none => match xw E m (evR S.regs) o.op with
        | some q => tcond q.pre (K ⟨S.nt, putR S.regs o.dst q.sv, q.m⟩)
        | none => match calleeOf (evR S.regs) o.op with
          | some (f, args) => match E.inl f, args.all known with
            | some fn, true => ci fn args m (fun v m' => K ⟨S.nt, putR S.regs o.dst v, m'⟩)
            | _, _ => StuckO o S.regs S.m
          | none => StuckO o S.regs S.m

def skipOp (o : Oper) (S : St) (K : St → Prop) : Prop :=
  match dstOk S.nt o.dst with
  | false => StuckO o S.regs S.m
  | true => K ⟨S.nt, putR S.regs o.dst (.raw undef), S.m⟩

def sameB : Bool → Bool → Bool
  | true, true => true
  | false, false => true
  | _, _ => false

theorem sameB_eq (b w : Bool) : sameB b w = (b == w) := by cases b <;> cases w <;> rfl

/-- The value of an operation that was skipped. -/
def isUndef : SV → Bool
  | .raw (.tuple ⟨[]⟩) => true
  | _ => false

def seqOps (E : Env) (ci : CI) (all : List Oper) : List Oper → St → (St → Prop) → Prop
  | [], S, K => K S
  | o :: r, S, K => match o.guard with
    | none => stepOp E ci o S (fun S' => seqOps E ci all r S' K)
    | some (g, want) => match (all[g]?).bind (·.dst) with
      | none => StuckO o S.regs S.m
      | some d => match look S.regs d with
        | some (.bool b) => match sameB b want with
          | true => stepOp E ci o S (fun S' => seqOps E ci all r S' K)
          | false => skipOp o S (fun S' => seqOps E ci all r S' K)
        | some (.prop p) => Br p
            (fun _ => match want with
              | true => stepOp E ci o ⟨S.nt, (d, .bool true) :: S.regs, S.m⟩ (fun S' => seqOps E ci all r S' K)
              | false => skipOp o ⟨S.nt, (d, .bool true) :: S.regs, S.m⟩ (fun S' => seqOps E ci all r S' K))
            (fun _ => match want with
              | false => stepOp E ci o ⟨S.nt, (d, .bool false) :: S.regs, S.m⟩ (fun S' => seqOps E ci all r S' K)
              | true => skipOp o ⟨S.nt, (d, .bool false) :: S.regs, S.m⟩ (fun S' => seqOps E ci all r S' K))
        | some v => match isUndef v with
          | true => skipOp o S (fun S' => seqOps E ci all r S' K)
          | false => StuckO o S.regs S.m
        | none => StuckO o S.regs S.m

section
variable {P : Program} {E : Env} (hE : EnvOk E P) {r : Option Nat} {lo : Nat}

theorem put_get {a : Act} {d t : Nat} {v : Value} (hd : d < a.tmps.size) : (a.put (some d) v).tmps[t]? = if d = t then some v else a.tmps[t]? := by
  simp only [Act.put, Array.getElem?_setIfInBounds]
  by_cases h : d = t
  · subst h; simp [hd]
  · simp [h]

/-- The state behind one operation's value. -/
theorem Sat.put {ρ ρ' : Nat → Value} {R R' : Nat → Prop} {S : St} {a : Act} {w w' : World} {dst : Option Nat} {sv : SV} {v : Value} {m' : Mm} (hS : Sat ρ R S a w) (hd : dstOk S.nt dst = true)
    (hM : SatM ρ' R' m' w') (hle : S.m.next ≤ m'.next) (hag : agree S.m.next ρ ρ') (hv : Den ρ' m'.next sv v) : Sat ρ' R' ⟨S.nt, putR S.regs dst sv, m'⟩ (a.put dst v) w' := by
  have old : ∀ t sv, look S.regs t = some sv → ∃ u, a.tmps[t]? = some u ∧ Den ρ' m'.next sv u := fun t sv h => by
    obtain ⟨u, hu, hden⟩ := hS.regs t sv h
    exact ⟨u, hu, hden.mono hle hag⟩
  cases dst with
  | none => exact ⟨hM, hS.size, old⟩
  | some d =>
    have hdlt : d < a.tmps.size := by rw [hS.size]; simpa [dstOk, bltN_iff] using hd
    refine ⟨hM, by simp [Act.put, hS.size], fun t sv' h => ?_⟩
    rw [put_get hdlt]
    simp only [putR, look] at h
    split at h
    · rename_i hb
      have := beqN_eq hb
      subst this
      simp only [Option.some.injEq] at h
      subst h
      exact ⟨v, by simp, hv⟩
    · rename_i hb
      rw [if_neg (fun e => by subst e; simp at hb)]
      exact old t sv' h

theorem evR_den {ρ : Nat → Value} {R : Nat → Prop} {S : St} {a : Act} {w : World} (hS : Sat ρ R S a w) : ∀ x, Den ρ S.m.next (evR S.regs x) (a.eval x)
  | .tmp t => by
    simp only [evR, Act.eval]
    cases h : look S.regs t with
    | none => exact .inl rfl
    | some sv =>
      obtain ⟨v, hv, hd⟩ := hS.regs t sv h
      rw [Array.getD_eq_getD_getElem?, hv]
      exact hd
  | .const v => den_svOf _ _ v
  | .func f => .inr ⟨rfl, trivial⟩
  | .global g => .inr ⟨rfl, trivial⟩

/-- What a call that is walked into comes to. -/
def CIOk (P : Program) (ci : CI) : Prop :=
  ∀ (f : Nat) (fn : Func) (args : List SV) (m : Mm) (K : SV → Mm → Prop), P.funcs[f]? = some fn → ci fn args m K →
    ∀ ρ R w vals, SatM ρ R m w → vals = denL ρ args → ltL ρ m.next args →
      Calls P f vals.toArray w fun e w' => ∃ v ρ' R' m' sv, e = .returned v ∧ SatM ρ' R' m' w' ∧ Rel m.next ρ R (Owns ρ m) w ρ' R' (Owns ρ' m') w' m'.next ∧ Den ρ' m'.next sv v ∧ K sv m'

include hE

theorem xw_ok {ρ : Nat → Value} {R : Nat → Prop} {m : Mm} {w : World} (hM : SatM ρ R m w) {q : WR} {a : Act} {o : Oper} {ev : Operand → SV} (hev : ∀ x, Den ρ m.next (ev x) (a.eval x))
    (hq : xw E m ev o.op = some q) (hp : ∀ p, q.pre = some p → p) {K : Act → World → Prop} {Q : Exit → Act → World → Prop}
    (hk : ∀ v ρ' R' w', WOk ρ R m w q v ρ' R' w' → K (a.put o.dst v) w') : o.wpIn (Fw r) 0 P a w K Q := by
  cases ho : o.op with
  | store t x v =>
    rw [ho] at hq
    simp only [xw] at hq
    exact store_ok hE hM ho (hev x) (hev v) hq (fun ρ' R' w' h => hk _ _ _ _ h)
  | call c =>
    rw [ho] at hq
    simp only [xw] at hq
    split at hq
    · rename_i hc
      split at hq
      · rename_i x y t t' hargs hts
        split at hq
        · rename_i ht
          have ht : t = t' := by simpa using ht
          subst ht
          exact append_ok hE hM ho hc (x := x) (y := y) (t := t) (by apply Array.ext'; simpa using hargs) (by apply Array.ext'; simpa using hts) (hev x) (hev y) hq hp hk
        · cases hq
      · cases hq
    · cases hq
  | _ => rw [ho] at hq; simp [xw] at hq

theorem stepOp_ok {ci : CI} (hci : CIOk P ci) {o : Oper} {S : St} {K : St → Prop} (h : stepOp E ci o S K) {ρ0 : Nat → Value} {R0 O0 : Nat → Prop} {w0 : World} {ρ : Nat → Value} {R : Nat → Prop} {a : Act} {w : World}
    (hS : Sat ρ R S a w) (hd : a.defers = []) (hrel : Rel lo ρ0 R0 O0 w0 ρ R (Owns ρ S.m) w S.m.next) {KA : Act → World → Prop} {Q : Exit → Act → World → Prop}
    (hk : ∀ S' ρ' R' a' w', K S' → Sat ρ' R' S' a' w' → a'.defers = [] → Rel lo ρ0 R0 O0 w0 ρ' R' (Owns ρ' S'.m) w' S'.m.next → KA a' w') : o.wpIn (Fw r) 0 P a w KA Q := by
  unfold stepOp at h
  split at h
  · exact h.out.elim
  · rename_i hdst
    obtain ⟨R1, hM1, hsub1, hnx1, hrn1⟩ := hS.m.frzL (wants E (evR S.regs) o.op)
    generalize hm : frzL S.m (wants E (evR S.regs) o.op) = m at h hM1 hnx1
    have hev : ∀ x, Den ρ m.next (evR S.regs x) (a.eval x) := fun x => by rw [hnx1]; exact evR_den hS x
    have hdef : ∀ (d : Option Nat) (v : Value), (a.put d v).defers = [] := fun d v => by cases d <;> exact hd
    have hown : ∀ b, Owns ρ m b → Owns ρ S.m b := fun b hb => by rw [← hm] at hb; exact owns_frzL _ hb
    have relW : ∀ ρ' R' O' w' n', Rel S.m.next ρ R1 (Owns ρ m) w ρ' R' O' w' n' → Rel lo ρ0 R0 O0 w0 ρ' R' O' w' n' := fun ρ' R' O' w' n' hr =>
      Rel.trans (hrel.trans (lo' := S.m.next) ⟨(Fr.refl _ _).less hown, hsub1, agree.refl _ _, Nat.le_refl _, fun b hb => (hrn1 b hb).imp id .inl⟩ hrel.le) hr hrel.le
    dsimp only at h
    split at h
    · rename_i q hq
      have hp : ∀ p, q.pre = some p → p := fun p hp => by
        simp only [tcond, hp] at h; exact h.1
      have hK : K ⟨S.nt, putR S.regs o.dst q.sv, addM m q⟩ := by
        unfold tcond at h
        split at h
        · exact h
        · exact h.2
      refine xq_ok hE hM1 hev hq hp fun v ρ' R' w' hok => ?_
      have ag : agree S.m.next ρ ρ' := fun i hi => hok.ag i (.inl (by rw [hnx1]; exact hi))
      exact hk _ ρ' R' _ w' hK (hS.put hdst (hM1.addQ hok) (by rw [← hnx1]; exact hok.le) ag hok.v) (hdef _ _)
        (relW _ _ _ _ _ ⟨hok.fr hM1, hok.sub, ag, by rw [← hnx1]; exact hok.le, fun b hb => (hok.sub' b hb).imp id (fun h => .inr h.1)⟩)
    · split at h
      · rename_i q hq
        have hp : ∀ p, q.pre = some p → p := fun p hp => by
          simp only [tcond, hp] at h; exact h.1
        have hK : K ⟨S.nt, putR S.regs o.dst q.sv, q.m⟩ := by
          unfold tcond at h
          split at h
          · exact h
          · exact h.2
        refine xw_ok hE hM1 hev hq hp fun v ρ' R' w' hok => ?_
        have ag : agree S.m.next ρ ρ' := by rw [← hnx1]; exact hok.ag
        have hle : S.m.next ≤ q.m.next := by rw [← hnx1]; exact hok.le
        exact hk _ ρ' R' _ w' hK (hS.put hdst hok.sat hle ag hok.v) (hdef _ _) (relW _ _ _ _ _ ⟨hok.fr, hok.sub, ag, hle, fun b hb => .inl (hok.rn b hb)⟩)
      · split at h
        · rename_i f args hcal
          split at h
          · rename_i fn hfn hkn
            obtain ⟨hfn1, hbody, hname⟩ := hE.inl f fn hfn
            -- the call
            have hcall : ∃ c x, o.op = .call c ∧ c.callee = .value x ∧ ∃ vals, vals = denL ρ args ∧ ltL ρ m.next args ∧ (execOp a.eval o).run P w = .ok (.enter f vals.toArray) w := by
              unfold calleeOf at hcal
              split at hcal
              · rename_i c ho
                split at hcal
                · rename_i x hc
                  have hname' : ¬ fn.name = "runtime.NumGoroutine" := by simpa using hname
                  have hl : ∀ l : List Operand, (∀ y ∈ l.map (evR S.regs), known y = true) → denL ρ (l.map (evR S.regs)) = l.map a.eval ∧ ltL ρ m.next (l.map (evR S.regs)) := by
                    intro l
                    induction l with
                    | nil => exact fun _ => ⟨rfl, trivial⟩
                    | cons y l ih =>
                      intro h
                      obtain ⟨h1, h2⟩ := ih (fun x hx => h x (by simp [hx]))
                      rcases hev y with hy | ⟨hy1, hy2⟩
                      · have := h (evR S.regs y) (by simp)
                        rw [hy] at this; cases this
                      · exact ⟨by simp [denL, h1, hy1], hy2, h2⟩
                  have hx := hev x
                  split at hcal
                  · rename_i f' hx'
                    simp only [Option.some.injEq, Prod.mk.injEq] at hcal
                    obtain ⟨rfl, rfl⟩ := hcal
                    rw [hx'] at hx
                    have hxv := den_raw hx
                    obtain ⟨h1, h2⟩ := hl _ (List.all_eq_true.1 hkn)
                    refine ⟨c, x, ho, hc, _, rfl, h2, ?_⟩
                    rw [h1]
                    simp [execOp, ho, resolve, hc, hxv, Deferred.ofValue, invoke, callFunc, hfn1, hname', Option.isNone_iff_eq_none, Option.isSome_iff_ne_none.1 hbody]
                    apply Array.ext'
                    simp
                  · rename_i f' fa fb hx'
                    simp only [Option.some.injEq, Prod.mk.injEq] at hcal
                    obtain ⟨rfl, rfl⟩ := hcal
                    rw [hx'] at hx
                    rcases hx with hx | ⟨hxv, hxl⟩
                    · cases hx
                    have hkn' : (∀ y ∈ fa, known y = true) ∧ (∀ y ∈ c.args.toList.map (evR S.regs), known y = true) := by
                      have := List.all_eq_true.1 hkn
                      exact ⟨fun y hy => this y (by simp [hy]), fun y hy => this y (by simp only [List.mem_append]; exact .inl (.inr hy))⟩
                    obtain ⟨h1, h2⟩ := hl _ hkn'.2
                    refine ⟨c, x, ho, hc, _, rfl, ?_, ?_⟩
                    · have h3 := hxl
                      rw [ltL_iff]
                      intro y hy
                      simp only [List.mem_append] at hy
                      rcases hy with (hy | hy) | hy
                      · exact (ltL_iff _ _ _).1 h3.1 y hy
                      · exact (ltL_iff _ _ _).1 h2 y hy
                      · exact (ltL_iff _ _ _).1 h3.2 y hy
                    · rw [denL_append, denL_append, h1]
                      simp [execOp, ho, resolve, hc, hxv, den, Deferred.ofValue, invoke, callFunc, hfn1, hname', Option.isNone_iff_eq_none, Option.isSome_iff_ne_none.1 hbody]
                  · cases hcal
                · cases hcal
              · cases hcal
            obtain ⟨c, x, ho, hc, vals, hvals, hlt, hrun⟩ := hcall
            refine ⟨fun _ _ => trivial, ?_⟩
            rw [Oper.semAt_eq _ _ _ (by rw [ho]; intro c; simp), hrun]
            refine ⟨by simp [Fw, Fence.wide], callsFw ?_⟩
            refine (hci f fn args m _ hfn1 h ρ R1 w vals hM1 hvals hlt).mono ?_
            rintro e w' ⟨v, ρ', R', m', sv, rfl, hM', hrel', hden, hK⟩
            have ag : agree S.m.next ρ ρ' := by rw [← hnx1]; exact hrel'.ag
            have hle : S.m.next ≤ m'.next := by rw [← hnx1]; exact hrel'.le
            exact hk _ ρ' R' _ w' hK (hS.put hdst hM' hle ag hden) (hdef _ _) (relW _ _ _ _ _ ⟨hrel'.fr, hrel'.sub, ag, hle, hrel'.rn⟩)
          · exact h.out.elim
        · exact h.out.elim

omit hE in
theorem skipOp_ok {o : Oper} {S : St} {K : St → Prop} (h : skipOp o S K) {ρ : Nat → Value} {R : Nat → Prop} {a : Act} {w : World} (hS : Sat ρ R S a w) :
    ∃ S', K S' ∧ Sat ρ R S' (a.put o.dst undef) w ∧ S'.m = S.m := by
  unfold skipOp at h
  split at h
  · exact h.out.elim
  · rename_i hdst
    exact ⟨_, h, hS.put hdst hS.m (Nat.le_refl _) (agree.refl _ _) (Den.mk rfl trivial), rfl⟩

omit hE in
/-- A slot that is known to be true or false. -/
theorem Sat.known {ρ : Nat → Value} {R : Nat → Prop} {S : St} {a : Act} {w : World} (hS : Sat ρ R S a w) {d : Nat} {p : Prop} (hd : look S.regs d = some (.prop p)) (b : Bool) (hb : p ↔ b = true) :
    Sat ρ R ⟨S.nt, (d, .bool b) :: S.regs, S.m⟩ a w := by
  refine ⟨hS.m, hS.size, fun t sv h => ?_⟩
  simp only [look] at h
  split at h
  · rename_i hq
    have := beqN_eq hq
    subst this
    simp only [Option.some.injEq] at h
    subst h
    obtain ⟨v, hv, hden⟩ := hS.regs d _ hd
    refine ⟨v, hv, Den.mk ?_ trivial⟩
    rw [den_prop hden]
    simp only [den]
    congr 1
    rw [Bool.eq_iff_iff]
    exact (@decide_eq_true_iff _ (Classical.propDecidable _)).trans hb
  · exact hS.regs t sv h

theorem seqOps_ok {ci : CI} (hci : CIOk P ci) (all : Array Oper) : ∀ (rest : List Oper) (k : Nat) (S : St) {K : St → Prop}, (∀ (j : Nat), rest[j]? = all[k + j]?) → seqOps E ci all.toList rest S K →
    ∀ {ρ0 : Nat → Value} {R0 O0 : Nat → Prop} {w0 : World} {ρ : Nat → Value} {R : Nat → Prop} {a : Act} {w : World}, Sat ρ R S a w → a.defers = [] → Rel lo ρ0 R0 O0 w0 ρ R (Owns ρ S.m) w S.m.next →
    ∀ {Q : Exit → Act → World → Prop}, (∀ S' ρ' R' a' w', K S' → Sat ρ' R' S' a' w' → a'.defers = [] → Rel lo ρ0 R0 O0 w0 ρ' R' (Owns ρ' S'.m) w' S'.m.next → Q .normal a' w') →
    wpOpsIn (Fw r) 0 P all Q (List.range' k rest.length) a w
  | [], k, S, K, _, h, ρ0, R0, O0, w0, ρ, R, a, w, hS, hd, hrel, Q, hk => by
    simp only [List.length_nil, List.range'_zero, wpOpsIn]
    exact hk S ρ R a w h hS hd hrel
  | o :: rest, k, S, K, hall, h, ρ0, R0, O0, w0, ρ, R, a, w, hS, hd, hrel, Q, hk => by
    have h0 : all[k]? = some o := by simpa using (hall 0).symm
    have hall' : ∀ (j : Nat), rest[j]? = all[k + 1 + j]? := fun j => by have := hall (j + 1); simpa [Nat.add_assoc, Nat.add_comm 1 j] using this
    simp only [List.length_cons, List.range'_succ, wpOpsIn, h0]
    have go : ∀ S1 : St, Sat ρ R S1 a w → S1.m = S.m → stepOp E ci o S1 (fun S' => seqOps E ci all.toList rest S' K) → o.wpIn (Fw r) 0 P a w (wpOpsIn (Fw r) 0 P all Q (List.range' (k + 1) rest.length)) Q := by
      intro S1 hS1 hm1 hst
      refine stepOp_ok hE hci hst hS1 hd (by rw [hm1]; exact hrel) (fun S' ρ' R' a' w' hK hS' hd' hrel' => ?_)
      exact seqOps_ok hci all rest (k + 1) S' hall' hK hS' hd' hrel' hk
    have skip : ∀ S1 : St, Sat ρ R S1 a w → S1.m = S.m → skipOp o S1 (fun S' => seqOps E ci all.toList rest S' K) →
        (∀ f, o.about P w a.eval = some f → (Fw r).fn f) ∧ wpOpsIn (Fw r) 0 P all Q (List.range' (k + 1) rest.length) (a.put o.dst undef) w := by
      intro S1 hS1 hm1 hst
      obtain ⟨S', hK, hS', hm'⟩ := skipOp_ok hst hS1
      refine ⟨fun _ _ => trivial, seqOps_ok hci all rest (k + 1) S' hall' hK hS' (by cases o.dst <;> exact hd) (by rw [hm', hm1]; exact hrel) hk⟩
    simp only [seqOps] at h
    split at h
    · rename_i hg
      rw [if_pos (by simp [Region.wanted, hg])]
      exact go S hS rfl h
    · rename_i g want hg
      split at h
      · exact h.out.elim
      · rename_i d hdst
        have hdst' : (all[g]?).bind (·.dst) = some d := by simpa using hdst
        -- what the guard says
        have want_of : ∀ b, a.tmps[d]? = some (.bool b) → Region.wanted o (yielded all a.tmps) = (b == want) := by
          intro b hb
          simp only [Region.wanted, hg, yielded, hdst', Option.bind_some, hb]
          cases b <;> cases want <;> rfl
        have use : ∀ (b : Bool) (S1 : St), Sat ρ R S1 a w → S1.m = S.m → look S1.regs d = some (.bool b) →
            (b = want → stepOp E ci o S1 (fun S' => seqOps E ci all.toList rest S' K)) → (b ≠ want → skipOp o S1 (fun S' => seqOps E ci all.toList rest S' K)) →
            (if Region.wanted o (yielded all a.tmps) = true then o.wpIn (Fw r) 0 P a w (wpOpsIn (Fw r) 0 P all Q (List.range' (k + 1) rest.length)) Q
              else (∀ f, o.about P w a.eval = some f → (Fw r).fn f) ∧ wpOpsIn (Fw r) 0 P all Q (List.range' (k + 1) rest.length) (a.put o.dst undef) w) := by
          intro b S1 hS1 hm1 hb h1 h2
          obtain ⟨v, hv, hden⟩ := hS1.regs d _ hb
          rw [den_bool hden] at hv
          rw [want_of b hv]
          by_cases he : b = want
          · rw [if_pos (by simp [he])]
            exact go S1 hS1 hm1 (h1 he)
          · rw [if_neg (by simpa using he)]
            exact skip S1 hS1 hm1 (h2 he)
        split at h
        · rename_i b hb
          split at h
          · rename_i hs
            have he : b = want := by rw [sameB_eq] at hs; exact eq_of_beq hs
            exact use b S hS rfl hb (fun _ => h) (fun hne => absurd he hne)
          · rename_i hs
            have he : b ≠ want := fun e => by rw [sameB_eq, e] at hs; simp at hs
            exact use b S hS rfl hb (fun e => absurd e he) (fun _ => h)
        · rename_i p hp
          have lk : ∀ b, look ((d, SV.bool b) :: S.regs) d = some (.bool b) := fun b => by simp [look]
          by_cases hpp : p
          · have h1 := h.t hpp
            refine use true _ (hS.known hp true (by simp [hpp])) rfl (lk true) (fun e => ?_) (fun e => ?_)
            · subst e; exact h1
            · cases want with
              | true => exact absurd rfl e
              | false => exact h1
          · have h1 := h.e hpp
            refine use false _ (hS.known hp false (by simp [hpp])) rfl (lk false) (fun e => ?_) (fun e => ?_)
            · subst e; exact h1
            · cases want with
              | false => exact absurd rfl e
              | true => exact h1
        · rename_i v _ _ hv
          split at h
          · rename_i hu
            have hvu : v = .raw undef := by
              unfold isUndef at hu
              split at hu
              · rfl
              · cases hu
            obtain ⟨u, hu1, hden⟩ := hS.regs d _ hv
            have hu2 : u = undef := by
              rw [hvu] at hden
              exact den_raw hden
            have hw : Region.wanted o (yielded all a.tmps) = false := by
              simp only [Region.wanted, hg, yielded, hdst', Option.bind_some, hu1, hu2, undef]
              rfl
            rw [hw]
            exact skip S hS rfl h
          · exact h.out.elim
        · exact h.out.elim
end
end SX

/-
  SX: regions that draw the order of their operations: what may come in any order is evaluated each in the view of what must come before it; a tail that must come in its order is walked in it.
-/
namespace SX
open Go

/-! ### The order -/

def memN (x : Nat) : List Nat → Bool
  | [] => false
  | y :: r => match beqN x y with
    | true => true
    | false => memN x r

theorem memN_iff {x : Nat} : ∀ l : List Nat, memN x l = true ↔ x ∈ l
  | [] => by simp [memN]
  | y :: r => by
    simp only [memN, List.mem_cons]
    split
    · rename_i h
      simp [beqN_eq h]
    · rename_i h
      have : x ≠ y := fun e => by subst e; simp at h
      simp [this, memN_iff r]

def bindsA (e : Edge) : Bool :=
  match e.ground with
  | .textOnly _ => false
  | .gcOnly _ => false
  | _ => true

theorem bindsA_eq (e : Edge) : Region.binds .any e = bindsA e := by
  unfold Region.binds bindsA
  cases e.ground <;> rfl

def predsL : List Edge → List Nat
  | [] => []
  | e :: r => match bindsA e with
    | true => e.on :: predsL r
    | false => predsL r

theorem mem_predsL {x : Nat} : ∀ l : List Edge, x ∈ predsL l ↔ ∃ e ∈ l, Region.binds .any e = true ∧ e.on = x
  | [] => by simp [predsL]
  | e :: r => by
    simp only [predsL]
    split
    · rename_i h
      simp only [List.mem_cons, mem_predsL r, exists_eq_or_imp, bindsA_eq, h, true_and]
      constructor
      · rintro (h | h)
        · exact .inl h.symm
        · exact .inr h
      · rintro (h | h)
        · exact .inl h.symm
        · exact .inr h
    · rename_i h
      simp only [mem_predsL r, List.mem_cons, exists_eq_or_imp, bindsA_eq, h]
      simp

def preds (o : Oper) : List Nat := predsL o.after.toList

def uni : List Nat → List Nat → List Nat
  | [], l => l
  | x :: r, l => match memN x l with
    | true => uni r l
    | false => uni r (x :: l)

theorem mem_uni {x : Nat} : ∀ a l : List Nat, x ∈ uni a l → x ∈ a ∨ x ∈ l
  | [], l, h => .inr h
  | y :: r, l, h => by
    simp only [uni] at h
    split at h
    · rcases mem_uni r l h with h | h
      · exact .inl (by simp [h])
      · exact .inr h
    · rcases mem_uni r _ h with h | h
      · exact .inl (by simp [h])
      · rcases List.mem_cons.1 h with rfl | h
        · exact .inl (by simp)
        · exact .inr h

def nthL : List (List Nat) → Nat → List Nat
  | [], _ => []
  | x :: _, 0 => x
  | _ :: r, n + 1 => nthL r n

theorem nthL_append_left : ∀ (l l' : List (List Nat)) (n : Nat), n < l.length → nthL (l ++ l') n = nthL l n
  | [], _, n, h => by simp at h
  | x :: r, l', 0, h => rfl
  | x :: r, l', n + 1, h => nthL_append_left r l' n (by simpa using h)
theorem nthL_append_right : ∀ (l l' : List (List Nat)) (n : Nat), nthL (l ++ l') (l.length + n) = nthL l' n
  | [], l', n => by simp
  | x :: r, l', n => by
    rw [List.cons_append, List.length_cons, show r.length + 1 + n = (r.length + n) + 1 by omega]
    exact nthL_append_right r l' n
theorem nthL_big : ∀ (l : List (List Nat)) (n : Nat), l.length ≤ n → nthL l n = []
  | [], _, _ => by simp [nthL]
  | x :: r, 0, h => by simp at h
  | x :: r, n + 1, h => nthL_big r n (by simpa using h)

def clo1 (acc : List (List Nat)) : List Nat → List Nat
  | [] => []
  | p :: ps => uni (p :: nthL acc p) (clo1 acc ps)

theorem mem_clo1 {acc : List (List Nat)} {x : Nat} : ∀ ps : List Nat, x ∈ clo1 acc ps → ∃ p ∈ ps, x = p ∨ x ∈ nthL acc p
  | [], h => by simp [clo1] at h
  | p :: ps, h => by
    simp only [clo1] at h
    rcases mem_uni _ _ h with h | h
    · refine ⟨p, by simp, ?_⟩
      simpa using h
    · obtain ⟨q, hq, h⟩ := mem_clo1 ps h
      exact ⟨q, by simp [hq], h⟩

def cloGo : List Oper → List (List Nat) → List (List Nat)
  | [], acc => acc
  | o :: r, acc => cloGo r (acc ++ [clo1 acc (preds o)])

theorem cloGo_len : ∀ (l : List Oper) (acc : List (List Nat)), (cloGo l acc).length = acc.length + l.length
  | [], acc => by simp [cloGo]
  | o :: r, acc => by simp [cloGo, cloGo_len r]; omega

theorem cloGo_old : ∀ (l : List Oper) (acc : List (List Nat)) (n : Nat), n < acc.length → nthL (cloGo l acc) n = nthL acc n
  | [], acc, n, _ => rfl
  | o :: r, acc, n, h => by
    rw [cloGo, cloGo_old r _ n (by simp; omega), nthL_append_left _ _ _ h]

theorem cloGo_new : ∀ (l : List Oper) (acc : List (List Nat)) (k : Nat) (o : Oper), l[k]? = some o → ∀ x ∈ nthL (cloGo l acc) (acc.length + k), ∃ p ∈ preds o, x = p ∨ x ∈ nthL (cloGo l acc) p
  | [], acc, k, o, h => by simp at h
  | o' :: r, acc, 0, o, h => by
    simp only [List.getElem?_cons_zero, Option.some.injEq] at h
    subst h
    intro x hx
    have e : nthL (cloGo (o' :: r) acc) (acc.length + 0) = clo1 acc (preds o') := by
      rw [cloGo, cloGo_old r _ _ (by simp), nthL_append_right]; rfl
    rw [e] at hx
    obtain ⟨p, hp, hx⟩ := mem_clo1 _ hx
    refine ⟨p, hp, hx.imp id fun hx => ?_⟩
    rcases Nat.lt_or_ge p acc.length with hlt | hge
    · rw [cloGo_old _ _ _ hlt]; exact hx
    · rw [nthL_big _ _ hge] at hx; simp at hx
  | o' :: r, acc, k + 1, o, h => by
    have := cloGo_new r (acc ++ [clo1 acc (preds o')]) k o (by simpa using h)
    rw [cloGo]
    rw [show acc.length + (k + 1) = (acc ++ [clo1 acc (preds o')]).length + k by simp; omega]
    exact this

def clos (ops : List Oper) : List (List Nat) := cloGo ops []

theorem clos_mem (ops : List Oper) {i : Nat} {o : Oper} (h : ops[i]? = some o) : ∀ x ∈ nthL (clos ops) i, ∃ p ∈ preds o, x = p ∨ x ∈ nthL (clos ops) p := by
  have := cloGo_new ops [] i o h
  simpa [clos] using this

/-- All smaller numbers are in it. -/
def fullTo : Nat → List Nat → Bool
  | 0, _ => true
  | n + 1, c => memN n c && fullTo n c

theorem fullTo_ok : ∀ (n : Nat) (c : List Nat), fullTo n c = true → ∀ j, j < n → j ∈ c
  | 0, _, _, j, h => by omega
  | n + 1, c, h, j, hj => by
    simp only [fullTo, Bool.and_eq_true] at h
    rcases Nat.lt_or_ge j n with hlt | hge
    · exact fullTo_ok n c h.2 j hlt
    · have : j = n := by omega
      subst this
      exact (memN_iff _).1 h.1

/-- Where the tail that must come in its order begins. -/
def tailAt : Nat → List (List Nat) → Nat
  | i, [] => i
  | i, c :: r => match beqN (tailAt (i + 1) r) (i + 1) && fullTo i c with
    | true => i
    | false => tailAt (i + 1) r

theorem tailAt_ge : ∀ (l : List (List Nat)) (i : Nat), i ≤ tailAt i l ∧ tailAt i l ≤ i + l.length
  | [], i => by simp [tailAt]
  | c :: r, i => by
    simp only [tailAt]
    split
    · simp
    · have := tailAt_ge r (i + 1)
      simp only [List.length_cons]; omega

theorem tailAt_ok : ∀ (l : List (List Nat)) (i k : Nat), tailAt i l ≤ i + k → k < l.length → ∀ j, j < i + k → j ∈ nthL l k
  | [], i, k, _, hk => by simp at hk
  | c :: r, i, k, h, hk => by
    intro j hj
    simp only [tailAt] at h
    split at h
    · rename_i hb
      simp only [Bool.and_eq_true, beqN_iff] at hb
      cases k with
      | zero => exact fullTo_ok i c hb.2 j (by omega)
      | succ k => exact tailAt_ok r (i + 1) k (by omega) (by simpa using hk) j (by omega)
    · have hg := (tailAt_ge r (i + 1)).1
      cases k with
      | zero => omega
      | succ k => exact tailAt_ok r (i + 1) k (by omega) (by simpa using hk) j (by omega)

def allLt (n : Nat) : List Nat → Bool
  | [] => true
  | x :: r => bltN x n && allLt n r
theorem allLt_ok {n : Nat} : ∀ l : List Nat, allLt n l = true → ∀ x ∈ l, x < n
  | [], _, x, h => by simp at h
  | y :: r, h, x, hx => by
    simp only [allLt, Bool.and_eq_true, bltN_iff] at h
    rcases List.mem_cons.1 hx with rfl | hx
    · exact h.1
    · exact allLt_ok r h.2 x hx

/-- What must come before stands before. -/
def backOk : Nat → List Oper → Bool
  | _, [] => true
  | i, o :: r => allLt i (preds o) && backOk (i + 1) r
theorem backOk_ok : ∀ (l : List Oper) (i : Nat), backOk i l = true → ∀ k o, l[k]? = some o → ∀ x ∈ preds o, x < i + k
  | [], _, _, k, o, h => by simp at h
  | o' :: r, i, hb, 0, o, h => by
    simp only [List.getElem?_cons_zero, Option.some.injEq] at h
    subst h
    simp only [backOk, Bool.and_eq_true] at hb
    exact fun x hx => allLt_ok _ hb.1 x hx
  | o' :: r, i, hb, k + 1, o, h => by
    simp only [backOk, Bool.and_eq_true] at hb
    intro x hx
    have := backOk_ok r (i + 1) hb.2 k o (by simpa using h) x hx
    omega

/-! ### Counting -/

def unl : List Bool → Nat
  | [] => 0
  | true :: r => unl r
  | false :: r => unl r + 1

theorem unl_set : ∀ (l : List Bool) (i : Nat), l[i]? = some false → unl (l.set i true) + 1 = unl l
  | [], i, h => by simp at h
  | b :: r, 0, h => by
    simp only [List.getElem?_cons_zero, Option.some.injEq] at h
    subst h
    simp [unl]
  | b :: r, i + 1, h => by
    have := unl_set r i (by simpa using h)
    cases b <;> simp only [List.set_cons_succ, unl] <;> omega

theorem unl_zero : ∀ (l : List Bool), unl l = 0 → ∀ i : Nat, l[i]? ≠ some false
  | [], _, i, h => by simp at h
  | true :: r, h, 0, h' => by simp at h'
  | true :: r, h, i + 1, h' => unl_zero r (by simpa [unl] using h) i (by simpa using h')
  | false :: r, h, i, h' => by simp [unl] at h

theorem unl_rep : ∀ n, unl (List.replicate n false) = n
  | 0 => rfl
  | n + 1 => by simp [List.replicate_succ, unl, unl_rep n]

theorem getD_false_iff {l : Array Bool} {i : Nat} : l.getD i true = false ↔ l.toList[i]? = some false := by
  rw [Array.getD_eq_getD_getElem?, ← Array.getElem?_toList]
  cases h : l.toList[i]? with
  | none => simp
  | some b => simp

/-- Anything ready, as long as something is left. -/
theorem ready_some {ops : Array Oper} {listed : Array Bool} (hsz : listed.size = ops.size) (hb : backOk 0 ops.toList = true) (h : Region.ready .any ops listed = []) : ∀ i, i < ops.size → listed.getD i true = true := by
  intro i
  induction i using Nat.strongRecOn with
  | _ i ih =>
    intro hi
    cases hc : listed.getD i true with
    | true => rfl
    | false =>
      exfalso
      have hm : i ∈ Region.ready .any ops listed := by
        rw [mem_ready]
        obtain ⟨o, ho⟩ : ∃ o, ops[i]? = some o := ⟨ops[i], by simp [hi]⟩
        refine ⟨hc, o, ho, fun e he hbe => ?_⟩
        have hlt := backOk_ok ops.toList 0 hb i o (by simpa using ho) e.on ((mem_predsL _).2 ⟨e, by simpa using he, hbe, rfl⟩)
        have := ih e.on (by omega) (by omega)
        rw [Array.getD_eq_getD_getElem?] at this ⊢
        have hl : e.on < listed.size := by omega
        simpa [hl] using this
      rw [h] at hm
      cases hm
end SX

/-
  SX: drawn regions, the walk of all orders.
-/
namespace SX
open Go

structure Rc where
  cl : List Nat
  dst : Option Nat
  n : Nat
  q : QR

/-- What the records among 'cl' bring. -/
def selR {α : Type} (cl : List Nat) (f : Rc → List α) : Nat → List Rc → List α
  | _, [] => []
  | j, r :: rs => match memN j cl with
    | true => f r ++ selR cl f (j + 1) rs
    | false => selR cl f (j + 1) rs

def regOf (r : Rc) : List (Nat × SV) :=
  match r.dst with
  | some d => [(d, r.q.sv)]
  | none => []

def selK (cl : List Nat) : List (Nat × Nat × Bool) → List (Nat × SV)
  | [] => []
  | (g, d, b) :: r => match memN g cl with
    | true => (d, .bool b) :: selK cl r
    | false => selK cl r

def lookK : List (Nat × Nat × Bool) → Nat → Option Bool
  | [], _ => none
  | (g, _, b) :: r, i => match beqN g i with
    | true => some b
    | false => lookK r i

def killOf : List Oper → List (Nat × SV)
  | [] => []
  | o :: r => match o.dst with
    | some d => (d, .unk) :: killOf r
    | none => killOf r

/-- The state that an operation sees: what came before the region, and its own predecessors. -/
def view (S : St) (kill : List (Nat × SV)) (recs : List Rc) (kn : List (Nat × Nat × Bool)) (cl : List Nat) (n : Nat) : St :=
  ⟨S.nt, selK cl kn ++ (selR cl regOf 0 recs ++ (kill ++ S.regs)), ⟨selR cl (fun r => r.q.mem) 0 recs ++ S.m.mem, selR cl (fun r => r.q.ro) 0 recs ++ S.m.ro, n⟩⟩

def nthR : List Rc → Nat → Option Rc
  | [], _ => none
  | x :: _, 0 => some x
  | _ :: r, n + 1 => nthR r n

def skipQ (n : Nat) : QR := ⟨none, .raw undef, [], [], n⟩

abbrev DK := List Rc → List (Nat × Nat × Bool) → Nat → Prop

def drawOne (E : Env) (S : St) (kill : List (Nat × SV)) (o : Oper) (cl : List Nat) (recs : List Rc) (kn : List (Nat × Nat × Bool)) (n : Nat) (K : Rc → Nat → Prop) : Prop :=
  match view S kill recs kn cl n with
  | V => match xqd E V.m (evR V.regs) o.op with
    | some q => match bleN n q.next with
      | true => tcond q.pre (K ⟨cl, o.dst, n, q⟩ q.next)
      | false => StuckO o V.regs V.m
    | none => StuckO o V.regs V.m

def drawGo (E : Env) (S : St) (kill : List (Nat × SV)) : List (Oper × List Nat) → List Rc → List (Nat × Nat × Bool) → Nat → DK → Prop
  | [], recs, kn, n, K => K recs kn n
  | (o, cl) :: rest, recs, kn, n, K => match dstOk S.nt o.dst with
    | false => StuckO o S.regs S.m
    | true => match o.guard with
      | none => drawOne E S kill o cl recs kn n (fun r n' => drawGo E S kill rest (recs ++ [r]) kn n' K)
      | some (g, want) => match memN g cl with
        | false => StuckO o S.regs S.m
        | true => match nthR recs g with
          | none => StuckO o S.regs S.m
          | some rg => match rg.dst with
            | none => StuckO o S.regs S.m
            | some d => match lookK kn g with
              | some b => match sameB b want with
                | true => drawOne E S kill o cl recs kn n (fun r n' => drawGo E S kill rest (recs ++ [r]) kn n' K)
                | false => drawGo E S kill rest (recs ++ [⟨cl, o.dst, n, skipQ n⟩]) kn n K
              | none => match rg.q.sv with
                | .bool b => match sameB b want with
                  | true => drawOne E S kill o cl recs kn n (fun r n' => drawGo E S kill rest (recs ++ [r]) kn n' K)
                  | false => drawGo E S kill rest (recs ++ [⟨cl, o.dst, n, skipQ n⟩]) kn n K
                | .prop p => Br p
                    (fun _ => match want with
                      | true => drawOne E S kill o cl recs ((g, d, true) :: kn) n (fun r n' => drawGo E S kill rest (recs ++ [r]) ((g, d, true) :: kn) n' K)
                      | false => drawGo E S kill rest (recs ++ [⟨cl, o.dst, n, skipQ n⟩]) ((g, d, true) :: kn) n K)
                    (fun _ => match want with
                      | false => drawOne E S kill o cl recs ((g, d, false) :: kn) n (fun r n' => drawGo E S kill rest (recs ++ [r]) ((g, d, false) :: kn) n' K)
                      | true => drawGo E S kill rest (recs ++ [⟨cl, o.dst, n, skipQ n⟩]) ((g, d, false) :: kn) n K)
                | v => match isUndef v with
                  | true => drawGo E S kill rest (recs ++ [⟨cl, o.dst, n, skipQ n⟩]) kn n K
                  | false => StuckO o S.regs S.m

/-! ### What is left behind -/

/-- A known bit is that of its operation's value. -/
def BitOk (recs : List Rc) (g d : Nat) (b : Bool) : Prop :=
  ∃ rg, nthR recs g = some rg ∧ rg.dst = some d ∧ (rg.q.sv = .bool b ∨ ∃ p, rg.q.sv = .prop p ∧ (p ↔ b = true))

def KnOk (recs : List Rc) (kn : List (Nat × Nat × Bool)) : Prop := ∀ g d b, (g, d, b) ∈ kn → BitOk recs g d b

/-- How a guard stands. -/
def GOk (recs : List Rc) (o : Oper) (cl : List Nat) (w : Bool) : Prop :=
  (o.guard = none ∧ w = true) ∨ (∃ g want b d, o.guard = some (g, want) ∧ g ∈ cl ∧ BitOk recs g d b ∧ w = (b == want)) ∨
    (w = false ∧ ∃ g want d rg, o.guard = some (g, want) ∧ g ∈ cl ∧ nthR recs g = some rg ∧ rg.dst = some d ∧ rg.q.sv = .raw undef)

/-- One record is right. -/
def RcOk (E : Env) (S : St) (kill : List (Nat × SV)) (recs : List Rc) (o : Oper) (r : Rc) : Prop :=
  r.dst = o.dst ∧ dstOk S.nt o.dst = true ∧ S.m.next ≤ r.n ∧
    ((GOk recs o r.cl false ∧ r.q = skipQ r.n) ∨ (GOk recs o r.cl true ∧ ∃ kn, KnOk recs kn ∧ xqd E (view S kill recs kn r.cl r.n).m (evR (view S kill recs kn r.cl r.n).regs) o.op = some r.q ∧ ∀ p, r.q.pre = some p → p))

theorem nthR_append_left : ∀ (l l' : List Rc) (n : Nat) (r : Rc), nthR l n = some r → nthR (l ++ l') n = some r
  | [], _, _, _, h => by simp [nthR] at h
  | x :: l, l', 0, r, h => h
  | x :: l, l', n + 1, r, h => nthR_append_left l l' n r h
theorem nthR_append_new : ∀ (l : List Rc) (x : Rc), nthR (l ++ [x]) l.length = some x
  | [], _ => rfl
  | _ :: l, x => nthR_append_new l x
theorem nthR_append_inv : ∀ (l : List Rc) (x : Rc) (n : Nat) (r : Rc), nthR (l ++ [x]) n = some r → nthR l n = some r ∨ (n = l.length ∧ r = x)
  | [], x, 0, r, h => by simp only [List.nil_append, nthR, Option.some.injEq] at h; exact .inr ⟨rfl, h.symm⟩
  | [], x, n + 1, r, h => by simp [nthR] at h
  | y :: l, x, 0, r, h => .inl h
  | y :: l, x, n + 1, r, h => by
    rcases nthR_append_inv l x n r h with h | ⟨h1, h2⟩
    · exact .inl h
    · exact .inr ⟨by simp [h1], h2⟩
theorem nthR_take : ∀ (l l' : List Rc) (n : Nat), n = l.length → (l ++ l').take n = l
  | l, l', n, h => by subst h; simp

theorem BitOk.more {recs : List Rc} {g d : Nat} {b : Bool} (h : BitOk recs g d b) (l : List Rc) : BitOk (recs ++ l) g d b :=
  let ⟨rg, h1, h2⟩ := h; ⟨rg, nthR_append_left _ _ _ _ h1, h2⟩
theorem KnOk.more {recs : List Rc} {kn : List (Nat × Nat × Bool)} (h : KnOk recs kn) (l : List Rc) : KnOk (recs ++ l) kn := fun g d b hb => (h g d b hb).more l
theorem lookK_mem : ∀ (kn : List (Nat × Nat × Bool)) (g : Nat) (b : Bool), lookK kn g = some b → ∃ d, (g, d, b) ∈ kn
  | [], _, _, h => by simp [lookK] at h
  | (g', d', b') :: r, g, b, h => by
    simp only [lookK] at h
    split at h
    · rename_i hb
      simp only [Option.some.injEq] at h
      subst h
      rw [← beqN_eq hb]
      exact ⟨d', by simp⟩
    · obtain ⟨d, hd⟩ := lookK_mem r g b h
      exact ⟨d, by simp [hd]⟩

/-- All records so far are right, each on those before it. -/
structure Good (E : Env) (S : St) (kill : List (Nat × SV)) (ops : List Oper) (cls : List (List Nat)) (recs : List Rc) (n : Nat) : Prop where
  len : recs.length ≤ ops.length
  each : ∀ i r, nthR recs i = some r → ∃ o, ops[i]? = some o ∧ r.cl = nthL cls i ∧ RcOk E S kill (recs.take i) o r
  ord : ∀ i j r r', i < j → nthR recs i = some r → nthR recs j = some r' → r.q.next ≤ r'.n
  top : ∀ i r, nthR recs i = some r → r.q.next ≤ n
  base : S.m.next ≤ n
  le : ∀ i r, nthR recs i = some r → r.n ≤ r.q.next

theorem nthR_len : ∀ (l : List Rc) (n : Nat) (r : Rc), nthR l n = some r → n < l.length
  | [], _, _, h => by simp [nthR] at h
  | x :: l, 0, r, h => by simp
  | x :: l, n + 1, r, h => by simpa using nthR_len l n r h

theorem Good.snoc {E : Env} {S : St} {kill : List (Nat × SV)} {ops : List Oper} {cls : List (List Nat)} {recs : List Rc} {n n' : Nat} (h : Good E S kill ops cls recs n) {o : Oper} {r : Rc}
    (ho : ops[recs.length]? = some o) (hcl : r.cl = nthL cls recs.length) (hr : RcOk E S kill recs o r) (hn : r.n = n) (hle : n ≤ n') (hq : r.q.next = n') : Good E S kill ops cls (recs ++ [r]) n' := by
  refine ⟨?_, fun i r' hi => ?_, fun i j r1 r2 hij h1 h2 => ?_, fun i r' hi => ?_, Nat.le_trans h.base hle, fun i r' hi => ?_⟩
  · have := (List.getElem?_eq_some_iff.1 ho).1
    simp; omega
  · rcases nthR_append_inv _ _ _ _ hi with hi | ⟨hi', hr'⟩
    · obtain ⟨o', h1, h2, h3⟩ := h.each i r' hi
      have := nthR_len _ _ _ hi
      exact ⟨o', h1, h2, by rw [List.take_append_of_le_length (by omega)]; exact h3⟩
    · subst hi' hr'
      exact ⟨o, ho, hcl, by rw [List.take_append_of_le_length (Nat.le_refl _), List.take_length]; exact hr⟩
  · rcases nthR_append_inv _ _ _ _ h1 with h1 | ⟨h1, e1⟩ <;> rcases nthR_append_inv _ _ _ _ h2 with h2 | ⟨h2, e2⟩
    · exact h.ord i j r1 r2 hij h1 h2
    · rw [e2, hn]; exact h.top i r1 h1
    · have := nthR_len _ _ _ h2; omega
    · omega
  · rcases nthR_append_inv _ _ _ _ hi with hi | ⟨_, e1⟩
    · exact Nat.le_trans (h.top i r' hi) hle
    · rw [e1]; omega
  · rcases nthR_append_inv _ _ _ _ hi with hi | ⟨_, e1⟩
    · exact h.le i r' hi
    · rw [e1]; omega

theorem sameB_t {b w : Bool} (h : sameB b w = true) : true = (b == w) := by rw [sameB_eq] at h; exact h.symm
theorem sameB_f {b w : Bool} (h : sameB b w = false) : false = (b == w) := by rw [sameB_eq] at h; exact h.symm

theorem drawOne_elim {E : Env} {S : St} {kill : List (Nat × SV)} {ops : List Oper} {cls : List (List Nat)} {recs : List Rc} {kn : List (Nat × Nat × Bool)} {n : Nat} {o : Oper} {cl : List Nat} {K : Rc → Nat → Prop}
    (hg : Good E S kill ops cls recs n) (ho : ops[recs.length]? = some o) (hcl : cl = nthL cls recs.length) (hd : dstOk S.nt o.dst = true) (hw : GOk recs o cl true) (hkn : KnOk recs kn)
    (h : drawOne E S kill o cl recs kn n K) : ∃ r n', Good E S kill ops cls (recs ++ [r]) n' ∧ K r n' := by
  unfold drawOne at h
  dsimp only at h
  split at h
  · rename_i q hq
    split at h
    · rename_i hle
      have hle : n ≤ q.next := by simpa using hle
      unfold tcond at h
      have fin : (∀ p, q.pre = some p → p) → K ⟨cl, o.dst, n, q⟩ q.next → ∃ r n', Good E S kill ops cls (recs ++ [r]) n' ∧ K r n' := fun hp hK =>
        ⟨_, _, hg.snoc ho (r := ⟨cl, o.dst, n, q⟩) hcl ⟨rfl, hd, hg.base, .inr ⟨hw, kn, hkn, hq, hp⟩⟩ rfl hle rfl, hK⟩
      split at h
      · rename_i hp
        exact fin (fun p hp' => by rw [hp] at hp'; cases hp') h
      · rename_i p hp
        exact fin (fun p' hp' => by rw [hp] at hp'; cases hp'; exact h.1) h.2
    · exact h.out.elim
  · exact h.out.elim

theorem drawGo_elim {E : Env} {S : St} {kill : List (Nat × SV)} {ops : List Oper} {cls : List (List Nat)} : ∀ (rest : List (Oper × List Nat)) {recs : List Rc} {kn : List (Nat × Nat × Bool)} {n : Nat} {K : DK},
    Good E S kill ops cls recs n → KnOk recs kn → (∀ j x, rest[j]? = some x → ops[recs.length + j]? = some x.1 ∧ x.2 = nthL cls (recs.length + j)) →
    drawGo E S kill rest recs kn n K → ∃ recs' kn' n', Good E S kill ops cls recs' n' ∧ KnOk recs' kn' ∧ recs'.length = recs.length + rest.length ∧ K recs' kn' n'
  | [], recs, kn, n, K, hg, hk, _, h => ⟨recs, kn, n, hg, hk, by simp, h⟩
  | (o, cl) :: rest, recs, kn, n, K, hg, hk, hr, h => by
    obtain ⟨ho, hcl⟩ := hr 0 (o, cl) rfl
    rw [Nat.add_zero] at ho hcl
    have hr' : ∀ (r : Rc) j x, rest[j]? = some x → ops[(recs ++ [r]).length + j]? = some x.1 ∧ x.2 = nthL cls ((recs ++ [r]).length + j) := fun r j x hx => by
      have := hr (j + 1) x (by simpa using hx)
      rw [show (recs ++ [r]).length + j = recs.length + (j + 1) by simp; omega]
      exact this
    have go : ∀ kn', KnOk recs kn' → dstOk S.nt o.dst = true → GOk recs o cl true → drawOne E S kill o cl recs kn' n (fun r n' => drawGo E S kill rest (recs ++ [r]) kn' n' K) →
        ∃ recs' kn' n', Good E S kill ops cls recs' n' ∧ KnOk recs' kn' ∧ recs'.length = recs.length + (rest.length + 1) ∧ K recs' kn' n' := fun kn' hk' hd hw h => by
      obtain ⟨r, n', hg', h'⟩ := drawOne_elim hg ho hcl hd hw hk' h
      obtain ⟨a, b, c, h1, h2, h3, h4⟩ := drawGo_elim rest hg' (hk'.more _) (hr' r) h'
      exact ⟨a, b, c, h1, h2, by rw [h3]; simp; omega, h4⟩
    have skip : ∀ kn', KnOk recs kn' → dstOk S.nt o.dst = true → GOk recs o cl false → drawGo E S kill rest (recs ++ [⟨cl, o.dst, n, skipQ n⟩]) kn' n K →
        ∃ recs' kn' n', Good E S kill ops cls recs' n' ∧ KnOk recs' kn' ∧ recs'.length = recs.length + (rest.length + 1) ∧ K recs' kn' n' := fun kn' hk' hd hw h => by
      have hg' : Good E S kill ops cls (recs ++ [⟨cl, o.dst, n, skipQ n⟩]) n := hg.snoc ho (r := ⟨cl, o.dst, n, skipQ n⟩) hcl ⟨rfl, hd, hg.base, .inl ⟨hw, rfl⟩⟩ rfl (Nat.le_refl _) rfl
      obtain ⟨a, b, c, h1, h2, h3, h4⟩ := drawGo_elim rest hg' (hk'.more _) (hr' _) h
      exact ⟨a, b, c, h1, h2, by rw [h3]; simp; omega, h4⟩
    simp only [drawGo] at h
    split at h
    · exact h.out.elim
    · rename_i hd
      split at h
      · rename_i hgd
        exact go kn hk hd (.inl ⟨hgd, rfl⟩) h
      · rename_i g want hgd
        split at h
        · exact h.out.elim
        · rename_i hmem
          have hmem := (memN_iff _).1 hmem
          split at h
          · exact h.out.elim
          · rename_i rg hrg
            split at h
            · exact h.out.elim
            · rename_i d hrd
              split at h
              · rename_i b hb
                obtain ⟨d', hd'⟩ := lookK_mem _ _ _ hb
                split at h
                · rename_i hs
                  exact go kn hk hd (.inr (.inl ⟨g, want, b, d', hgd, hmem, hk _ _ _ hd', sameB_t hs⟩)) h
                · rename_i hs
                  exact skip kn hk hd (.inr (.inl ⟨g, want, b, d', hgd, hmem, hk _ _ _ hd', sameB_f hs⟩)) h
              · split at h
                · rename_i b hb
                  have hbit : BitOk recs g d b := ⟨rg, hrg, hrd, .inl hb⟩
                  split at h
                  · rename_i hs
                    exact go kn hk hd (.inr (.inl ⟨g, want, b, d, hgd, hmem, hbit, sameB_t hs⟩)) h
                  · rename_i hs
                    exact skip kn hk hd (.inr (.inl ⟨g, want, b, d, hgd, hmem, hbit, sameB_f hs⟩)) h
                · rename_i p hp
                  have hbit : ∀ b : Bool, (p ↔ b = true) → BitOk recs g d b := fun b hb => ⟨rg, hrg, hrd, .inr ⟨p, hp, hb⟩⟩
                  have hkn : ∀ b : Bool, (p ↔ b = true) → KnOk recs ((g, d, b) :: kn) := fun b hb g' d' b' h' => by
                    rcases List.mem_cons.1 h' with e | h'
                    · cases e; exact hbit b hb
                    · exact hk _ _ _ h'
                  by_cases hpp : p
                  · have hbt : p ↔ true = true := by simp [hpp]
                    have h1 := h.t hpp
                    cases want with
                    | true => exact go _ (hkn true hbt) hd (.inr (.inl ⟨g, true, true, d, hgd, hmem, hbit _ hbt, rfl⟩)) h1
                    | false => exact skip _ (hkn true hbt) hd (.inr (.inl ⟨g, false, true, d, hgd, hmem, hbit _ hbt, rfl⟩)) h1
                  · have hbf : p ↔ false = true := by simp [hpp]
                    have h1 := h.e hpp
                    cases want with
                    | false => exact go _ (hkn false hbf) hd (.inr (.inl ⟨g, false, false, d, hgd, hmem, hbit _ hbf, rfl⟩)) h1
                    | true => exact skip _ (hkn false hbf) hd (.inr (.inl ⟨g, true, false, d, hgd, hmem, hbit _ hbf, rfl⟩)) h1
                · split at h
                  · rename_i hu
                    have hvu : rg.q.sv = .raw undef := by
                      generalize rg.q.sv = v at hu
                      unfold isUndef at hu
                      split at hu
                      · rfl
                      · cases hu
                    exact skip kn hk hd (.inr (.inr ⟨rfl, g, want, d, rg, hgd, hmem, hrg, hrd, hvu⟩)) h
                  · exact h.out.elim
end SX

/-
  SX: drawn regions: every order comes to the same.
-/
namespace SX
open Go

mutual
def avSV (lo hi : Nat) : SV → Bool
  | .at id _ => bltN id lo || bleN hi id
  | .el id _ _ _ => bltN id lo || bleN hi id
  | .vw id _ _ _ => bltN id lo || bleN hi id
  | .agg l => avL lo hi l
  | .tup l => avL lo hi l
  | .fn _ a b => avL lo hi a && avL lo hi b
  | _ => true
def avL (lo hi : Nat) : List SV → Bool
  | [] => true
  | x :: r => avSV lo hi x && avL lo hi r
end

mutual
theorem avSV_ok {lo hi n : Nat} {ρ ρ' : Nat → Value} (h : ∀ i, (i < lo ∨ hi ≤ i) → ρ' i = ρ i) : ∀ sv : SV, avSV lo hi sv = true → den ρ' sv = den ρ sv ∧ (sv.lt ρ n → sv.lt ρ' n)
  | .unk, _ => ⟨rfl, fun h => h⟩
  | .int .., _ => ⟨rfl, fun h => h⟩
  | .prop _, _ => ⟨rfl, fun h => h⟩
  | .bool _, _ => ⟨rfl, fun h => h⟩
  | .str _, _ => ⟨rfl, fun h => h⟩
  | .at id off, ha => by
    simp only [avSV, Bool.or_eq_true, bltN_iff, bleN_iff] at ha
    exact ⟨by simp only [den]; rw [h id ha], fun hl => ⟨hl.1, by rw [h id ha]; exact hl.2⟩⟩
  | .el id _ _ _, ha => by
    simp only [avSV, Bool.or_eq_true, bltN_iff, bleN_iff] at ha
    exact ⟨by simp only [den]; rw [h id ha], fun hl => ⟨hl.1, by rw [h id ha]; exact hl.2⟩⟩
  | .vw id _ _ _, ha => by
    simp only [avSV, Bool.or_eq_true, bltN_iff, bleN_iff] at ha
    exact ⟨by simp only [den]; rw [h id ha], fun hl => ⟨hl.1, by rw [h id ha]; exact hl.2⟩⟩
  | .agg l, ha => by
    obtain ⟨h1, h2⟩ := avL_ok h l (by simpa only [avSV] using ha)
    exact ⟨by simp only [den]; rw [h1], h2⟩
  | .tup l, ha => by
    obtain ⟨h1, h2⟩ := avL_ok h l (by simpa only [avSV] using ha)
    exact ⟨by simp only [den]; rw [h1], h2⟩
  | .fn _ a b, ha => by
    simp only [avSV, Bool.and_eq_true] at ha
    obtain ⟨h1, h2⟩ := avL_ok h a ha.1
    obtain ⟨h3, h4⟩ := avL_ok h b ha.2
    exact ⟨by simp only [den]; rw [h1, h3], fun hl => ⟨h2 hl.1, h4 hl.2⟩⟩
  | .raw _, _ => ⟨rfl, fun h => h⟩
theorem avL_ok {lo hi n : Nat} {ρ ρ' : Nat → Value} (h : ∀ i, (i < lo ∨ hi ≤ i) → ρ' i = ρ i) : ∀ l : List SV, avL lo hi l = true → denL ρ' l = denL ρ l ∧ (ltL ρ n l → ltL ρ' n l)
  | [], _ => ⟨rfl, fun h => h⟩
  | x :: r, ha => by
    simp only [avL, Bool.and_eq_true] at ha
    obtain ⟨h1, h2⟩ := avSV_ok h x ha.1
    obtain ⟨h3, h4⟩ := avL_ok h r ha.2
    exact ⟨by simp only [denL]; rw [h1, h3], fun hl => ⟨h2 hl.1, h4 hl.2⟩⟩
end

def avRes (lo hi : Nat) : Res → Bool
  | .cells l => avL lo hi l
  | _ => true

def avMem (lo hi : Nat) : List (Nat × Res) → Bool
  | [] => true
  | (_, x) :: r => avRes lo hi x && avMem lo hi r

def avRc (lo hi : Nat) (r : Rc) : Bool := avSV lo hi r.q.sv && avMem lo hi r.q.mem

/-- Of record 'j' with those before it: what it does not wait for it does not name. -/
def avOne (j : Nat) (cl : List Nat) (r : Rc) : Nat → List Rc → Bool
  | _, [] => true
  | i, x :: xs => (bleN j i || memN i cl || beqN x.n x.q.next || avRc x.n x.q.next r) && avOne j cl r (i + 1) xs

def avAll (all : List Rc) : Nat → List Rc → Bool
  | _, [] => true
  | j, r :: rs => avOne j r.cl r 0 all && avAll all (j + 1) rs

theorem avMem_ok {lo hi : Nat} : ∀ l : List (Nat × Res), avMem lo hi l = true → ∀ id x, look l id = some x → avRes lo hi x = true
  | [], _, _, _, h => by simp [look] at h
  | (k, y) :: r, ha, id, x, h => by
    simp only [avMem, Bool.and_eq_true] at ha
    simp only [look] at h
    split at h
    · simp only [Option.some.injEq] at h
      subst h; exact ha.1
    · exact avMem_ok r ha.2 id x h

theorem avOne_ok {j : Nat} {cl : List Nat} {r : Rc} : ∀ (l : List Rc) (i : Nat), avOne j cl r i l = true → ∀ k x, nthR l k = some x → j ≤ i + k ∨ i + k ∈ cl ∨ x.n = x.q.next ∨ avRc x.n x.q.next r = true
  | [], _, _, _, _, h => by simp [nthR] at h
  | y :: l, i, ha, 0, x, h => by
    simp only [nthR, Option.some.injEq] at h
    subst h
    simp only [avOne, Bool.and_eq_true, Bool.or_eq_true, beqN_iff, bleN_iff] at ha
    rcases ha.1 with ((h | h) | h) | h
    · exact .inl h
    · exact .inr (.inl ((memN_iff _).1 h))
    · exact .inr (.inr (.inl h))
    · exact .inr (.inr (.inr h))
  | y :: l, i, ha, k + 1, x, h => by
    simp only [avOne, Bool.and_eq_true] at ha
    rw [show i + (k + 1) = i + 1 + k by omega]
    exact avOne_ok l (i + 1) ha.2 k x h

theorem avAll_ok {all : List Rc} : ∀ (l : List Rc) (i : Nat), avAll all i l = true → ∀ j r, nthR l j = some r → avOne (i + j) r.cl r 0 all = true
  | [], _, _, _, _, h => by simp [nthR] at h
  | y :: l, i, ha, 0, r, h => by
    simp only [nthR, Option.some.injEq] at h
    subst h
    simp only [avAll, Bool.and_eq_true] at ha
    exact ha.1
  | y :: l, i, ha, j + 1, r, h => by
    simp only [avAll, Bool.and_eq_true] at ha
    rw [show i + (j + 1) = i + 1 + j by omega]
    exact avAll_ok l (i + 1) ha.2 j r h

/-- No temporary twice. -/
def dstIn (d : Nat) : List Oper → Bool
  | [] => false
  | o :: r => match o.dst with
    | some d' => beqN d d' || dstIn d r
    | none => dstIn d r

def dstsOk : List Oper → Bool
  | [] => true
  | o :: r => match o.dst with
    | some d => !dstIn d r && dstsOk r
    | none => dstsOk r

theorem dstIn_ok {d : Nat} : ∀ (l : List Oper) (k : Nat) (o : Oper), l[k]? = some o → o.dst = some d → dstIn d l = true
  | [], k, o, h, _ => by simp at h
  | x :: l, 0, o, h, hd => by
    simp only [List.getElem?_cons_zero, Option.some.injEq] at h
    subst h
    simp [dstIn, hd]
  | x :: l, k + 1, o, h, hd => by
    have := dstIn_ok l k o (by simpa using h) hd
    simp only [dstIn]
    split
    · simp [this]
    · exact this

theorem dstsOk_ok {d : Nat} : ∀ (l : List Oper), dstsOk l = true → ∀ (i j : Nat) (o o' : Oper), i < j → l[i]? = some o → l[j]? = some o' → o.dst = some d → o'.dst ≠ some d
  | [], _, i, j, o, o', _, h, _ => by simp at h
  | x :: l, hk, 0, 0, o, o', hlt, _, _ => by omega
  | x :: l, hk, i + 1, 0, o, o', hlt, _, _ => by omega
  | x :: l, hk, 0, j + 1, o, o', hlt, h, h' => by
    simp only [List.getElem?_cons_zero, Option.some.injEq] at h
    subst h
    intro hd hd'
    have := dstIn_ok l j o' (by simpa using h') hd'
    simp [dstsOk, hd, this] at hk
  | x :: l, hk, i + 1, j + 1, o, o', hlt, h, h' => by
    refine dstsOk_ok l ?_ i j o o' (by omega) (by simpa using h) (by simpa using h')
    simp only [dstsOk] at hk
    split at hk
    · simp only [Bool.and_eq_true] at hk; exact hk.2
    · exact hk

theorem killOf_ok : ∀ (l : List Oper) (t : Nat) (sv : SV), look (killOf l) t = some sv → sv = .unk
  | [], _, _, h => by simp [killOf, look] at h
  | o :: l, t, sv, h => by
    simp only [killOf] at h
    split at h
    · simp only [look] at h
      split at h
      · simp only [Option.some.injEq] at h; exact h.symm
      · exact killOf_ok l t sv h
    · exact killOf_ok l t sv h
theorem killOf_has : ∀ (l : List Oper) (k : Nat) (o : Oper) (d : Nat), l[k]? = some o → o.dst = some d → look (killOf l) d = some .unk
  | [], k, o, d, h, _ => by simp at h
  | x :: l, 0, o, d, h, hd => by
    simp only [List.getElem?_cons_zero, Option.some.injEq] at h
    subst h
    simp [killOf, hd, look]
  | x :: l, k + 1, o, d, h, hd => by
    have := killOf_has l k o d (by simpa using h) hd
    simp only [killOf]
    split
    · simp only [look]
      split
      · rfl
      · exact this
    · exact this

theorem look_selK {cl : List Nat} : ∀ (kn : List (Nat × Nat × Bool)) (t : Nat) (sv : SV), look (selK cl kn) t = some sv → ∃ g b, (g, t, b) ∈ kn ∧ g ∈ cl ∧ sv = .bool b
  | [], _, _, h => by simp [selK, look] at h
  | (g, d, b) :: r, t, sv, h => by
    simp only [selK] at h
    split at h
    · rename_i hm
      simp only [look] at h
      split at h
      · rename_i hb
        simp only [Option.some.injEq] at h
        rw [← beqN_eq hb]
        exact ⟨g, b, by simp, (memN_iff _).1 hm, h.symm⟩
      · obtain ⟨g', b', h1, h2⟩ := look_selK r t sv h
        exact ⟨g', b', by simp [h1], h2⟩
    · obtain ⟨g', b', h1, h2⟩ := look_selK r t sv h
      exact ⟨g', b', by simp [h1], h2⟩

theorem look_selR {α : Type} {cl : List Nat} {f : Rc → List (Nat × α)} : ∀ (l : List Rc) (k x : Nat) (y : α), look (selR cl f k l) x = some y → ∃ j r, nthR l j = some r ∧ k + j ∈ cl ∧ look (f r) x = some y
  | [], _, _, _, h => by simp [selR, look] at h
  | r :: l, k, x, y, h => by
    simp only [selR] at h
    split at h
    · rename_i hm
      rw [look_append] at h
      split at h
      · rename_i z hz
        simp only [Option.some.injEq] at h
        subst h
        exact ⟨0, r, rfl, (memN_iff _).1 hm, hz⟩
      · obtain ⟨j, r', h1, h2, h3⟩ := look_selR l (k + 1) x y h
        exact ⟨j + 1, r', h1, by rw [show k + (j + 1) = k + 1 + j by omega]; exact h2, h3⟩
    · obtain ⟨j, r', h1, h2, h3⟩ := look_selR l (k + 1) x y h
      exact ⟨j + 1, r', h1, by rw [show k + (j + 1) = k + 1 + j by omega]; exact h2, h3⟩

theorem look_regOf {r : Rc} {t : Nat} {sv : SV} (h : look (regOf r) t = some sv) : r.dst = some t ∧ sv = r.q.sv := by
  unfold regOf at h
  split at h
  · rename_i d hd
    simp only [look] at h
    split at h
    · rename_i hb
      simp only [Option.some.injEq] at h
      rw [hd, beqN_eq hb]
      exact ⟨rfl, h.symm⟩
    · cases h
  · simp [look] at h

theorem nthR_take_lt : ∀ (l : List Rc) (i j : Nat) (r : Rc), nthR (l.take i) j = some r → j < i ∧ nthR l j = some r
  | [], i, j, r, h => by simp [nthR] at h
  | x :: l, 0, j, r, h => by simp [nthR] at h
  | x :: l, i + 1, 0, r, h => ⟨by omega, h⟩
  | x :: l, i + 1, j + 1, r, h => by
    have := nthR_take_lt l i j r (by simpa [nthR] using h)
    exact ⟨by omega, this.2⟩

theorem resOk_own {ρ : Nat → Value} {R : Nat → Prop} {w : World} {n id b : Nat} {x : Res} (h : ResOk ρ R w n id x) (hg : x ≠ .gone) (hb : ownB (ρ id) = some b) : b < w.heap.size := by
  cases x with
  | gone => exact absurd rfl hg
  | cells l =>
    obtain ⟨_, _, b', tt, hρ, hh⟩ := h
    rw [hρ] at hb
    simp only [ownB, Option.some.injEq] at hb
    subst hb
    exact (Array.getElem?_eq_some_iff.1 hh).1
  | arr ex s =>
    rcases h with ⟨_, hρ⟩ | ⟨b', cap, cur, ty, hρ, _, _, _, hh, _⟩
    · rw [hρ] at hb; cases hb
    · rw [hρ] at hb
      simp only [ownB, Option.some.injEq] at hb
      subst hb
      exact (Array.getElem?_eq_some_iff.1 hh).1

theorem ResOk_av {ρ ρ' : Nat → Value} {R R' : Nat → Prop} {w w' : World} {n id lo hi : Nat} {x : Res} (ha : ∀ i, (i < lo ∨ hi ≤ i) → ρ' i = ρ i) (hid : id < lo ∨ hi ≤ id) (hav : avRes lo hi x = true) (hR : ∀ b, R b → R' b)
    (hkeep : ∀ b, R b → w'.heap[b]? = w.heap[b]?) (hown : x ≠ .gone → ∀ b, ownB (ρ id) = some b → w'.heap[b]? = w.heap[b]?)
    (h : ResOk ρ R w n id x) : ResOk ρ' R' w' n id x := by
  cases x with
  | gone => trivial
  | cells l =>
    obtain ⟨h1, h2, b, ty, hρ, hh⟩ := h
    obtain ⟨e1, e2⟩ := avL_ok (n := n) ha l hav
    refine ⟨e2 h1, h2, b, ty, by rw [ha id hid]; exact hρ, ?_⟩
    rw [e1, hown (by simp) b (by rw [hρ]; rfl)]
    exact hh
  | arr ex s =>
    rcases h with ⟨h1, h2⟩ | ⟨b, cap, cur, ty, h1, h2, h3, h4, h5, h6, h7⟩
    · exact .inl ⟨h1, by rw [ha id hid]; exact h2⟩
    · exact .inr ⟨b, cap, cur, ty, by rw [ha id hid]; exact h1, h2, h3, h4, by rw [hown (by simp) b (by rw [h1]; rfl)]; exact h5, h6, h7.mono hkeep hR⟩
end SX

/-
  SX: drawn regions: the walk itself.
-/
namespace SX
open Go

/-- An entry of memory that is there, with the level of its names. -/
def Ent (S : St) (recs : List Rc) (L : Array Bool) (id : Nat) (x : Res) (lvl : Nat) : Prop :=
  (∃ i rc, L.getD i false = true ∧ nthR recs i = some rc ∧ look rc.q.mem id = some x ∧ lvl = rc.q.next) ∨ (look S.m.mem id = some x ∧ lvl = S.m.next)

def EntR (S : St) (recs : List Rc) (L : Array Bool) (id : Nat) (s : Sl) (lvl : Nat) : Prop :=
  (∃ i rc, L.getD i false = true ∧ nthR recs i = some rc ∧ look rc.q.ro id = some s ∧ lvl = rc.q.next) ∨ (look S.m.ro id = some s ∧ lvl = S.m.next)

def OwnsL (S : St) (recs : List Rc) (L : Array Bool) (ρ : Nat → Value) (b : Nat) : Prop := ∃ id x lvl, Ent S recs L id x lvl ∧ x ≠ .gone ∧ ownB (ρ id) = some b

structure DInv (S : St) (kill : List (Nat × SV)) (ops : Array Oper) (t : Nat) (recs : List Rc) (ρ : Nat → Value) (R : Nat → Prop) (a : Act) (w : World) (L : Array Bool) : Prop where
  sz : L.size = ops.size
  tl : ∀ i, t ≤ i → L.getD i false = false
  dn : ∀ i, L.getD i false = true → ∀ j ∈ nthL (clos ops.toList) i, L.getD j false = true
  df : a.defers = []
  at_ : a.tmps.size = S.nt
  reg0 : ∀ t sv, look (kill ++ S.regs) t = some sv → ∃ v, a.tmps[t]? = some v ∧ Den ρ S.m.next sv v
  reg1 : ∀ i rc, L.getD i false = true → nthR recs i = some rc → ∀ d, rc.dst = some d → ∃ v, a.tmps[d]? = some v ∧ Den ρ rc.q.next rc.q.sv v
  low : ∀ i rc, L.getD i false = true → nthR recs i = some rc → (∀ id x, look rc.q.mem id = some x → rc.n ≤ id) ∧ (∀ id x, look rc.q.ro id = some x → rc.n ≤ id)
  mem : ∀ id x lvl, Ent S recs L id x lvl → id < lvl ∧ ResOk ρ R w lvl id x
  sep1 : ∀ id x lvl, Ent S recs L id x lvl → x ≠ .gone → ∀ b, ownB (ρ id) = some b → ¬ R b
  sep2 : ∀ id x lvl id' x' lvl', id ≠ id' → Ent S recs L id x lvl → Ent S recs L id' x' lvl' → x ≠ .gone → x' ≠ .gone → ∀ b, ownB (ρ id) = some b → ownB (ρ id') ≠ some b
  ro : ∀ id s lvl, EntR S recs L id s lvl → id < lvl ∧ RdK w R (.sl s.ks) (.ofL s.n s.f) (ρ id)
  Rlt : ∀ b, R b → b < w.heap.size

section
variable {E : Env} {S : St} {kill : List (Nat × SV)} {ops : Array Oper} {t : Nat} {recs : List Rc} {n : Nat}

/-- The level of what came before is no more than one's own. -/
theorem ent_lvl {cl : List Nat} {i : Nat} {m : Nat} (hm : ∀ j rc, j < i → nthR recs j = some rc → rc.q.next ≤ m) (hb : S.m.next ≤ m)
    {ρ : Nat → Value} {R : Nat → Prop} {a : Act} {w : World} {L : Array Bool} (hI : DInv S kill ops t recs ρ R a w L) (hcl : ∀ j ∈ cl, L.getD j false = true) {kn : List (Nat × Nat × Bool)} (hkn : KnOk (recs.take i) kn) :
    Sat ρ R (view S kill (recs.take i) kn cl m) a w ∧ ∀ b, Owns ρ (view S kill (recs.take i) kn cl m).m b → OwnsL S recs L ρ b := by
  have fromM : ∀ id x, look (selR cl (fun r => r.q.mem) 0 (recs.take i) ++ S.m.mem) id = some x → ∃ lvl, lvl ≤ m ∧ Ent S recs L id x lvl := by
    intro id x h
    rw [look_append] at h
    split at h
    · rename_i y hy
      simp only [Option.some.injEq] at h
      subst h
      obtain ⟨j, r, h1, h2, h3⟩ := look_selR _ _ _ _ hy
      obtain ⟨hlt, hr⟩ := nthR_take_lt _ _ _ _ h1
      rw [Nat.zero_add] at h2
      exact ⟨r.q.next, hm j r hlt hr, .inl ⟨j, r, hcl j h2, hr, h3, rfl⟩⟩
    · exact ⟨_, hb, .inr ⟨h, rfl⟩⟩
  have fromR : ∀ id x, look (selR cl (fun r => r.q.ro) 0 (recs.take i) ++ S.m.ro) id = some x → ∃ lvl, lvl ≤ m ∧ EntR S recs L id x lvl := by
    intro id x h
    rw [look_append] at h
    split at h
    · rename_i y hy
      simp only [Option.some.injEq] at h
      subst h
      obtain ⟨j, r, h1, h2, h3⟩ := look_selR _ _ _ _ hy
      obtain ⟨hlt, hr⟩ := nthR_take_lt _ _ _ _ h1
      rw [Nat.zero_add] at h2
      exact ⟨r.q.next, hm j r hlt hr, .inl ⟨j, r, hcl j h2, hr, h3, rfl⟩⟩
    · exact ⟨_, hb, .inr ⟨h, rfl⟩⟩
  refine ⟨⟨⟨?_, ?_, ?_, ?_, hI.Rlt⟩, hI.at_, ?_⟩, fun b ⟨id, x, hx, hg, hb⟩ => ?_⟩
  rotate_left 5
  · obtain ⟨lvl, _, he⟩ := fromM id x hx
    exact ⟨id, x, lvl, he, hg, hb⟩
  · intro id x h
    obtain ⟨lvl, hl, he⟩ := fromM id x h
    obtain ⟨h1, h2⟩ := hI.mem id x lvl he
    exact ⟨Nat.lt_of_lt_of_le h1 hl, ResOk_mono hl (agree.refl _ _) h1 (fun _ h => h) (fun _ _ => rfl) (fun _ _ _ => rfl) h2⟩
  · intro id x h
    obtain ⟨lvl, _, he⟩ := fromM id x h
    exact hI.sep1 id x lvl he
  · intro id x id' x' hne h h'
    obtain ⟨lvl, _, he⟩ := fromM id x h
    obtain ⟨lvl', _, he'⟩ := fromM id' x' h'
    exact hI.sep2 id x lvl id' x' lvl' hne he he'
  · intro id s h
    obtain ⟨lvl, hl, he⟩ := fromR id s h
    obtain ⟨h1, h2⟩ := hI.ro id s lvl he
    exact ⟨Nat.lt_of_lt_of_le h1 hl, h2⟩
  · intro tt sv h
    show ∃ v, a.tmps[tt]? = some v ∧ Den ρ m sv v
    simp only [view] at h
    rw [look_append] at h
    split at h
    · rename_i y hy
      simp only [Option.some.injEq] at h
      subst h
      obtain ⟨g, b, h1, h2, h3⟩ := look_selK _ _ _ hy
      subst h3
      obtain ⟨rg, hrg, hrd, hrv⟩ := hkn g tt b h1
      obtain ⟨hlt, hr⟩ := nthR_take_lt _ _ _ _ hrg
      obtain ⟨v, hv, hden⟩ := hI.reg1 g rg (hcl g h2) hr tt hrd
      refine ⟨v, hv, Den.mk ?_ trivial⟩
      rcases hrv with hrv | ⟨p, hrv, hp⟩
      · rw [hrv] at hden; exact den_bool hden
      · rw [hrv] at hden
        rw [den_prop hden]
        simp only [den]
        congr 1
        rw [Bool.eq_iff_iff]
        exact (@decide_eq_true_iff _ (Classical.propDecidable _)).trans hp
    · rw [look_append] at h
      split at h
      · rename_i y hy
        simp only [Option.some.injEq] at h
        subst h
        obtain ⟨j, r, h1, h2, h3⟩ := look_selR _ _ _ _ hy
        obtain ⟨hlt, hr⟩ := nthR_take_lt _ _ _ _ h1
        rw [Nat.zero_add] at h2
        obtain ⟨e1, e2⟩ := look_regOf h3
        obtain ⟨v, hv, hden⟩ := hI.reg1 j r (hcl j h2) hr tt e1
        rw [e2]
        exact ⟨v, hv, hden.mono (hm j r hlt hr) (agree.refl _ _)⟩
      · obtain ⟨v, hv, hden⟩ := hI.reg0 tt sv h
        exact ⟨v, hv, hden.mono hb (agree.refl _ _)⟩

theorem getD_set {L : Array Bool} {i j : Nat} (h : i < L.size) : (L.setIfInBounds i true).getD j false = true ↔ j = i ∨ L.getD j false = true := by
  simp only [Array.getD_eq_getD_getElem?, Array.getElem?_setIfInBounds]
  by_cases hij : i = j
  · subst hij; simp [h]
  · simp [hij, Ne.symm hij]

/-- One more operation has come. -/
theorem DInv.step (hg : Good E S kill (ops.toList.take t) (clos ops.toList) recs n) (hav : avAll recs 0 recs = true) (hds : dstsOk (ops.toList.take t) = true) (hkill : kill = killOf (ops.toList.take t))
    {ρ ρ' : Nat → Value} {R R' : Nat → Prop} {a : Act} {w w' : World} {L : Array Bool} (hI : DInv S kill ops t recs ρ R a w L) {i : Nat} (hi : i < ops.size) (hit : i < t) (hun : L.getD i false = false) (hcl : ∀ j ∈ nthL (clos ops.toList) i, L.getD j false = true)
    {rc : Rc} (hrc : nthR recs i = some rc) {m : Mm} (hmn : m.next = rc.n) {v : Value} (hq : QOk ρ R m w rc.q v ρ' R' w') :
    DInv S kill ops t recs ρ' R' (a.put rc.dst v) w' (L.setIfInBounds i true) ∧ Fr (OwnsL S recs L ρ) w (OwnsL S recs (L.setIfInBounds i true) ρ') w' := by
  have hsz : i < L.size := by rw [hI.sz]; exact hi
  obtain ⟨o, ho, hrcl, hrd, hdst, hbase, _⟩ := hg.each i rc hrc
  have hag : ∀ k, (k < rc.n ∨ rc.q.next ≤ k) → ρ' k = ρ k := fun k hk => hq.ag k (by rw [hmn]; exact hk)
  have hkR : ∀ b, R b → w'.heap[b]? = w.heap[b]? := fun b hb => hq.grow.keep b (hI.Rlt b hb)
  have hle : rc.n ≤ rc.q.next := hg.le i rc hrc
  -- the other records
  have other : ∀ j rj, L.getD j false = true → nthR recs j = some rj → (rj.q.next ≤ rc.n ∨ (rc.q.next ≤ rj.n ∧ (rc.n = rc.q.next ∨ avRc rc.n rc.q.next rj = true))) := by
    intro j rj hj hrj
    rcases Nat.lt_trichotomy j i with hlt | heq | hgt
    · exact .inl (hg.ord j i rj rc hlt hrj hrc)
    · subst heq; rw [hun] at hj; cases hj
    · refine .inr ⟨hg.ord i j rc rj hgt hrc hrj, ?_⟩
      obtain ⟨_, _, hrcl', _⟩ := hg.each j rj hrj
      have := avOne_ok recs 0 (avAll_ok recs 0 hav j rj hrj) i rc hrc
      rw [Nat.zero_add, Nat.zero_add] at this
      rcases this with h | h | h | h
      · omega
      · rw [hrcl'] at h
        have := hI.dn j hj i h
        rw [hun] at this; cases this
      · exact .inl h
      · exact .inr h
  -- names of entries
  have names : ∀ id x lvl, Ent S recs L id x lvl → (id < rc.n ∨ rc.q.next ≤ id) ∧ (lvl ≤ rc.n ∨ rc.n = rc.q.next ∨ avRes rc.n rc.q.next x = true) := by
    rintro id x lvl he
    have hlt := (hI.mem id x lvl he).1
    rcases he with ⟨j, rj, hj, hrj, hx, rfl⟩ | ⟨hx, rfl⟩
    · rcases other j rj hj hrj with h | ⟨h, h'⟩
      · exact ⟨.inl (by omega), .inl h⟩
      · have := (hI.low j rj hj hrj).1 id x hx
        refine ⟨.inr (by omega), .inr (h'.imp (fun h => h) fun h' => ?_)⟩
        simp only [avRc, Bool.and_eq_true] at h'
        exact avMem_ok _ h'.2 id x hx
    · exact ⟨.inl (by omega), .inl hbase⟩
  have namesR : ∀ id s lvl, EntR S recs L id s lvl → (id < rc.n ∨ rc.q.next ≤ id) := by
    rintro id x lvl he
    have hlt := (hI.ro id x lvl he).1
    rcases he with ⟨j, rj, hj, hrj, hx, rfl⟩ | ⟨hx, rfl⟩
    · rcases other j rj hj hrj with h | ⟨h, _⟩
      · exact .inl (by omega)
      · have := (hI.low j rj hj hrj).2 id x hx
        exact .inr (by omega)
    · exact .inl (by omega)
  have ent : ∀ id x lvl, Ent S recs (L.setIfInBounds i true) id x lvl → (look rc.q.mem id = some x ∧ lvl = rc.q.next) ∨ Ent S recs L id x lvl := by
    rintro id x lvl (⟨j, rj, hj, hrj, hx, rfl⟩ | h)
    · rcases (getD_set hsz).1 hj with rfl | hj
      · rw [hrc] at hrj
        simp only [Option.some.injEq] at hrj
        subst hrj
        exact .inl ⟨hx, rfl⟩
      · exact .inr (.inl ⟨j, rj, hj, hrj, hx, rfl⟩)
    · exact .inr (.inr h)
  have entR : ∀ id s lvl, EntR S recs (L.setIfInBounds i true) id s lvl → (look rc.q.ro id = some s ∧ lvl = rc.q.next) ∨ EntR S recs L id s lvl := by
    rintro id x lvl (⟨j, rj, hj, hrj, hx, rfl⟩ | h)
    · rcases (getD_set hsz).1 hj with rfl | hj
      · rw [hrc] at hrj
        simp only [Option.some.injEq] at hrj
        subst hrj
        exact .inl ⟨hx, rfl⟩
      · exact .inr (.inl ⟨j, rj, hj, hrj, hx, rfl⟩)
    · exact .inr (.inr h)
  have hnew : ∀ id x, look rc.q.mem id = some x → (rc.n ≤ id ∧ id < rc.q.next) := fun id x h => by
    have := (hq.mem id x h).1
    rw [hmn] at this; exact this
  have hdlt : ∀ d, rc.dst = some d → d < a.tmps.size := fun d hd => by
    rw [hI.at_]
    rw [← hrd, hd] at hdst
    simpa [dstOk] using hdst
  refine ⟨⟨?_, ?_, ?_, ?_, ?_, ?_, ?_, ?_, ?_, ?_, ?_, ?_, ?_⟩, ⟨hq.grow.os, hq.grow.tape, hq.grow.output, hq.grow.size, fun b hb _ => hq.grow.keep b hb, ?_⟩⟩
  · simp [hI.sz]
  · intro k hk
    cases h : (L.setIfInBounds i true).getD k false with
    | false => rfl
    | true =>
      rcases (getD_set hsz).1 h with rfl | h
      · omega
      · rw [hI.tl k hk] at h; cases h
  · intro k hk j hj
    rw [getD_set hsz]
    rcases (getD_set hsz).1 hk with rfl | hk
    · exact .inr (hcl j hj)
    · exact .inr (hI.dn k hk j hj)
  · cases rc.dst <;> exact hI.df
  · cases rc.dst <;> simp [Act.put, hI.at_]
  · intro tt sv h
    obtain ⟨u, hu, hden⟩ := hI.reg0 tt sv h
    cases hd : rc.dst with
    | none => exact ⟨u, hu, hden.mono (Nat.le_refl _) (fun k hk => hag k (.inl (by omega)))⟩
    | some d =>
      rw [put_get (hdlt d hd)]
      by_cases hdt : d = tt
      · subst hdt
        refine ⟨v, by simp, .inl ?_⟩
        rw [look_append] at h
        have hk := killOf_has (ops.toList.take t) i o d ho (by rw [← hrd]; exact hd)
        rw [hkill, hk] at h
        simp only [Option.some.injEq] at h
        exact h.symm
      · exact ⟨u, by simp [hdt, hu], hden.mono (Nat.le_refl _) (fun k hk => hag k (.inl (by omega)))⟩
  · intro j rj hj hrj d' hd'
    rcases (getD_set hsz).1 hj with rfl | hj1
    · rw [hrc] at hrj
      simp only [Option.some.injEq] at hrj
      subst hrj
      rw [hd', put_get (hdlt d' hd')]
      exact ⟨v, by simp, hq.v⟩
    · obtain ⟨u, hu, hden⟩ := hI.reg1 j rj hj1 hrj d' hd'
      have hne : j ≠ i := fun e => by rw [e, hun] at hj1; cases hj1
      have hden' : Den ρ' rj.q.next rj.q.sv u := by
        rcases other j rj hj1 hrj with h | ⟨_, h | h⟩
        · exact hden.mono (Nat.le_refl _) (fun k hk => hag k (.inl (by omega)))
        · exact hden.mono (Nat.le_refl _) (fun k hk => hag k (by omega))
        · simp only [avRc, Bool.and_eq_true] at h
          obtain ⟨e1, e2⟩ := avSV_ok (n := rj.q.next) hag rj.q.sv h.1
          rcases hden with hd | ⟨h1, h2⟩
          · exact .inl hd
          · exact .inr ⟨by rw [e1]; exact h1, e2 h2⟩
      cases hd : rc.dst with
      | none => exact ⟨u, hu, hden'⟩
      | some d =>
        rw [put_get (hdlt d hd), if_neg ?_]
        · exact ⟨u, hu, hden'⟩
        · rintro rfl
          obtain ⟨o', ho', _, hrd', _⟩ := hg.each j rj hrj
          rcases Nat.lt_or_gt_of_ne hne with hlt | hgt
          · exact dstsOk_ok _ hds j i o' o hlt ho' ho (by rw [← hrd']; exact hd') (by rw [← hrd]; exact hd)
          · exact dstsOk_ok _ hds i j o o' hgt ho ho' (by rw [← hrd]; exact hd) (by rw [← hrd']; exact hd')
  · intro j rj hj hrj
    rcases (getD_set hsz).1 hj with rfl | hj
    · rw [hrc] at hrj
      simp only [Option.some.injEq] at hrj
      subst hrj
      exact ⟨fun id x h => (hnew id x h).1, fun id x h => by have := (hq.ro id x h).1.1; rw [hmn] at this; exact this⟩
    · exact hI.low j rj hj hrj
  · intro id x lvl he
    rcases ent id x lvl he with ⟨hx, rfl⟩ | he
    · exact ⟨(hnew id x hx).2, (hq.mem id x hx).2.1⟩
    · obtain ⟨h1, h2⟩ := hI.mem id x lvl he
      obtain ⟨h3, h4⟩ := names id x lvl he
      refine ⟨h1, ?_⟩
      have hown : x ≠ .gone → ∀ b, ownB (ρ id) = some b → w'.heap[b]? = w.heap[b]? := fun hg b hb => hq.grow.keep b (resOk_own h2 hg hb)
      rcases h4 with h4 | h4 | h4
      · exact ResOk_mono (Nat.le_refl _) (fun k hk => hag k (.inl (by omega))) h1 hq.sub hkR hown h2
      · exact ResOk_mono (Nat.le_refl _) (fun k hk => hag k (by omega)) h1 hq.sub hkR hown h2
      · exact ResOk_av hag h3 h4 hq.sub hkR hown h2
  · intro id x lvl he hxg b hb
    rcases ent id x lvl he with ⟨hx, rfl⟩ | he
    · exact ((hq.mem id x hx).2.2 b hb).2.2
    · rw [hag id (names id x lvl he).1] at hb
      intro hR
      rcases hq.sub' b hR with h2 | ⟨h2, _⟩
      · exact hI.sep1 id x lvl he hxg b hb h2
      · have := resOk_own (hI.mem id x lvl he).2 hxg hb; omega
  · intro id x lvl id' x' lvl' hne he he' hxg hxg' b hb
    rcases ent id x lvl he with ⟨hx, rfl⟩ | he <;> rcases ent id' x' lvl' he' with ⟨hx', rfl⟩ | he'
    · exact hq.mem1 _ _ _ _ hx hx' hne b hb
    · have h1 := ((hq.mem id x hx).2.2 b hb).1
      rw [hag id' (names _ _ _ he').1]
      intro hb'
      have := resOk_own (hI.mem _ _ _ he').2 hxg' hb'; omega
    · rw [hag id (names _ _ _ he).1] at hb
      intro hb'
      have h1 := ((hq.mem id' x' hx').2.2 b hb').1
      have := resOk_own (hI.mem _ _ _ he).2 hxg hb; omega
    · rw [hag id (names _ _ _ he).1] at hb
      rw [hag id' (names _ _ _ he').1]
      exact hI.sep2 id x lvl id' x' lvl' hne he he' hxg hxg' b hb
  · intro id s lvl he
    rcases entR id s lvl he with ⟨hx, rfl⟩ | he
    · obtain ⟨⟨h1, h2⟩, h3⟩ := hq.ro id s hx
      exact ⟨h2, h3⟩
    · obtain ⟨h1, h2⟩ := hI.ro id s lvl he
      exact ⟨h1, by rw [hag id (namesR id s lvl he)]; exact RdK_mono hkR hq.sub _ _ _ h2⟩
  · intro b hb
    rcases hq.sub' b hb with h | ⟨_, h⟩
    · exact Nat.lt_of_lt_of_le (hI.Rlt b h) hq.grow.size
    · exact h
  · rintro b ⟨id, x, lvl, he, hxg, hb⟩
    rcases ent id x lvl he with ⟨hx, rfl⟩ | he
    · exact .inr ((hq.mem id x hx).2.2 b hb).1
    · rw [hag id (names _ _ _ he).1] at hb
      exact .inl ⟨id, x, lvl, he, hxg, hb⟩
end
end SX

/-
  SX: drawn regions: the executor's step, and that it holds.
-/
namespace SX
open Go

def zipC : List Oper → List (List Nat) → List (Oper × List Nat)
  | o :: r, c :: cs => (o, c) :: zipC r cs
  | _, _ => []

def upto : Nat → List Nat
  | 0 => []
  | n + 1 => n :: upto n

def wantsAll (E : Env) (ev : Operand → SV) : List Oper → List SV
  | [] => []
  | o :: r => wants E ev o.op ++ wantsAll E ev r

def drawOps (E : Env) (ci : CI) (ops : List Oper) (S : St) (K : St → Prop) : Prop :=
  match clos ops with
  | cls => match tailAt 0 cls with
    | t => match ops.take t with
      | pre => match backOk 0 ops && dstsOk pre with
        | false => StuckC .skip S
        | true => match killOf pre, frzL S.m (wantsAll E (evR S.regs) pre) with
          | kill, m => drawGo E ⟨S.nt, S.regs, m⟩ kill (zipC pre cls) [] [] m.next (fun recs kn n =>
            match avAll recs 0 recs with
            | true => seqOps E ci ops (ops.drop t) (view ⟨S.nt, S.regs, m⟩ kill recs kn (upto t) n) K
            | false => StuckC .skip S)

theorem mem_upto {x : Nat} : ∀ n, x ∈ upto n ↔ x < n
  | 0 => by simp [upto]
  | n + 1 => by simp [upto, mem_upto n]; omega

theorem zipC_get : ∀ (l : List Oper) (c : List (List Nat)) (k : Nat) (x : Oper × List Nat), (zipC l c)[k]? = some x → l[k]? = some x.1 ∧ x.2 = nthL c k
  | [], c, k, x, h => by simp [zipC] at h
  | o :: l, [], k, x, h => by simp [zipC] at h
  | o :: l, c :: cs, 0, x, h => by
    simp only [zipC, List.getElem?_cons_zero, Option.some.injEq] at h
    subst h; exact ⟨rfl, rfl⟩
  | o :: l, c :: cs, k + 1, x, h => zipC_get l cs k x (by simpa [zipC] using h)
theorem zipC_len : ∀ (l : List Oper) (c : List (List Nat)), l.length ≤ c.length → (zipC l c).length = l.length
  | [], c, _ => by cases c <;> rfl
  | o :: l, [], h => by simp at h
  | o :: l, c :: cs, h => by simp [zipC, zipC_len l cs (by simpa using h)]

theorem nthR_some : ∀ (l : List Rc) (i : Nat), i < l.length → ∃ r, nthR l i = some r
  | [], _, h => by simp at h
  | x :: l, 0, _ => ⟨x, rfl⟩
  | x :: l, i + 1, h => nthR_some l i (by simpa using h)

theorem SatM.world {ρ : Nat → Value} {R : Nat → Prop} {m : Mm} {w w' : World} (h : SatM ρ R m w) (e : w'.heap = w.heap) : SatM ρ R m w' := by
  refine ⟨fun id x hx => ?_, h.sep1, h.sep2, fun id s hs => ?_, fun b hb => by rw [e]; exact h.Rlt b hb⟩
  · obtain ⟨h1, h2⟩ := h.mem id x hx
    exact ⟨h1, ResOk_mono (Nat.le_refl _) (agree.refl _ _) h1 (fun _ h => h) (fun _ _ => by rw [e]) (fun _ _ _ => by rw [e]) h2⟩
  · obtain ⟨h1, h2⟩ := h.ro id s hs
    exact ⟨h1, RdK_mono (fun _ _ => by rw [e]) (fun _ h => h) _ _ _ h2⟩

theorem getD_tf {L : Array Bool} {i : Nat} (hi : i < L.size) : L.getD i true = L.getD i false := by
  simp [Array.getD_eq_getD_getElem?, hi]

section
variable {P : Program} {F : Fence} {nn : Nat} {ops : Array Oper} {Q : Exit → Act → World → Prop}

/-- What is ready has all its predecessors behind it. -/
theorem ready_clos {L : Array Bool} (hdn : ∀ i, L.getD i false = true → ∀ j ∈ nthL (clos ops.toList) i, L.getD j false = true) {i : Nat} (h : i ∈ Region.ready .any ops L) :
    ∃ o, ops[i]? = some o ∧ L.getD i true = false ∧ ∀ j ∈ nthL (clos ops.toList) i, L.getD j false = true := by
  obtain ⟨hun, o, ho, hall⟩ := mem_ready.1 h
  refine ⟨o, ho, hun, fun j hj => ?_⟩
  obtain ⟨p, hp, hx⟩ := clos_mem ops.toList (i := i) (o := o) (by simpa using ho) j hj
  obtain ⟨e, he, hb, rfl⟩ := (mem_predsL _).1 hp
  have hl := hall e (by simpa using he) hb
  rcases hx with rfl | hx
  · exact hl
  · exact hdn _ hl j hx

theorem cl_lt (hb : backOk 0 ops.toList = true) : ∀ (i : Nat), i < ops.size → ∀ x ∈ nthL (clos ops.toList) i, x < i := by
  intro i
  induction i using Nat.strongRecOn with
  | _ i ih =>
    intro hi x hx
    have ho : ops.toList[i]? = some ops[i] := by simp [hi]
    obtain ⟨p, hp, hx⟩ := clos_mem ops.toList ho x hx
    have hpi := backOk_ok ops.toList 0 hb i _ ho p hp
    rcases hx with rfl | hx
    · omega
    · have := ih p (by omega) (by omega) x hx; omega

/-- The tail comes in its order. -/
theorem tail_any (hb : backOk 0 ops.toList = true) {t : Nat} (ht : tailAt 0 (clos ops.toList) = t) : ∀ (m k : Nat) (L : Array Bool) (a : Act) (w : World), k + m = ops.size → t ≤ k → L.size = ops.size →
    (∀ i, L.getD i false = true ↔ i < k) → wpOpsIn F nn P ops Q (List.range' k m) a w → wpAnyIn F nn P .any ops Q m L a w := by
  intro m
  induction m with
  | zero =>
    intro k L a w hk _ hsz hL h
    have hr : Region.ready .any ops L = [] := by
      cases hr : Region.ready .any ops L with
      | nil => rfl
      | cons j r =>
        exfalso
        have hj : j ∈ Region.ready .any ops L := by rw [hr]; simp
        obtain ⟨hun, o, ho, _⟩ := mem_ready.1 hj
        have hlt := (Array.getElem?_eq_some_iff.1 ho).1
        have := (hL j).2 (by omega)
        rw [getD_tf (by omega), this] at hun
        cases hun
    exact ⟨hr, by simpa [wpOpsIn] using h⟩
  | succ m ih =>
    intro k L a w hk htk hsz hL h
    have hlen : (clos ops.toList).length = ops.size := by simp [clos, cloGo_len]
    have hdn : ∀ i, L.getD i false = true → ∀ j ∈ nthL (clos ops.toList) i, L.getD j false = true := fun i hi j hj => by
      have := (hL i).1 hi
      have := cl_lt hb i (by omega) j hj
      exact (hL j).2 (by omega)
    refine ⟨fun hr => ?_, fun i hi => ?_⟩
    · have := ready_some hsz hb hr k (by omega)
      rw [getD_tf (by omega)] at this
      have := (hL k).1 this
      omega
    · obtain ⟨o, ho, hun, hcl⟩ := ready_clos hdn hi
      have hlt := (Array.getElem?_eq_some_iff.1 ho).1
      have hik : k ≤ i := by
        rcases Nat.lt_or_ge i k with h' | h'
        · have := (hL i).2 h'
          rw [getD_tf (by omega), this] at hun
          cases hun
        · exact h'
      have hik' : i = k := by
        rcases Nat.lt_or_eq_of_le hik with h' | h'
        · have := tailAt_ok (clos ops.toList) 0 i (by omega) (by omega) k (by omega)
          have := (hL k).1 (hcl k this)
          omega
        · exact h'.symm
      subst hik'
      rw [List.range'_succ, wpOpsIn_cons] at h
      refine wpOpIn_mono (fun a' w' h' => ih (i + 1) _ a' w' (by omega) (by omega) (by simp [hsz]) (fun j => ?_) h') h
      rw [getD_set (by omega), hL]
      omega
end

section
variable {P : Program} {E : Env} (hE : EnvOk E P) {r : Option Nat} {lo : Nat}
variable {S : St} {kill : List (Nat × SV)} {ops : Array Oper} {t : Nat} {recs : List Rc} {kn : List (Nat × Nat × Bool)} {n : Nat}

/-- How a guard stands in a state. -/
theorem gok_wanted (hg : Good E S kill (ops.toList.take t) (clos ops.toList) recs n) {ρ : Nat → Value} {R : Nat → Prop} {a : Act} {w : World} {L : Array Bool} (hI : DInv S kill ops t recs ρ R a w L)
    {i : Nat} {o : Oper} {cl : List Nat} (hcl : ∀ j ∈ cl, L.getD j false = true) {wb : Bool} (h : GOk (recs.take i) o cl wb) : Region.wanted o (yielded ops a.tmps) = wb := by
  rcases h with ⟨h1, rfl⟩ | ⟨g, want, b, d, h1, h2, ⟨rg, hrg, hrd, hrv⟩, rfl⟩ | ⟨rfl, g, want, d, rg, h1, h2, hrg, hrd, hrv⟩
  · simp [Region.wanted, h1]
  · obtain ⟨_, hr⟩ := nthR_take_lt _ _ _ _ hrg
    obtain ⟨og, hog, _, hogd, _⟩ := hg.each g rg hr
    have hog' : ops[g]? = some og := by
      rw [List.getElem?_take] at hog
      split at hog
      · simpa using hog
      · cases hog
    obtain ⟨v, hv, hden⟩ := hI.reg1 g rg (hcl g h2) hr d hrd
    have hvb : v = .bool b := by
      rcases hrv with hrv | ⟨p, hrv, hp⟩
      · rw [hrv] at hden; exact den_bool hden
      · rw [hrv] at hden
        rw [den_prop hden]
        congr 1
        rw [Bool.eq_iff_iff]
        exact (@decide_eq_true_iff _ (Classical.propDecidable _)).trans hp
    simp only [Region.wanted, h1, yielded, hog', Option.bind_some, ← hogd, hrd, hv, hvb]
    cases b <;> cases want <;> rfl
  · obtain ⟨_, hr⟩ := nthR_take_lt _ _ _ _ hrg
    obtain ⟨og, hog, _, hogd, _⟩ := hg.each g rg hr
    have hog' : ops[g]? = some og := by
      rw [List.getElem?_take] at hog
      split at hog
      · simpa using hog
      · cases hog
    obtain ⟨v, hv, hden⟩ := hI.reg1 g rg (hcl g h2) hr d hrd
    have hvb : v = undef := by
      rw [hrv] at hden
      exact den_raw hden
    simp only [Region.wanted, h1, yielded, hog', Option.bind_some, ← hogd, hrd, hv, hvb, undef]
    rfl

include hE

theorem draw_walk (hg : Good E S kill (ops.toList.take t) (clos ops.toList) recs n) (hlen : recs.length = t) (ht : tailAt 0 (clos ops.toList) = t) (hb : backOk 0 ops.toList = true)
    (hav : avAll recs 0 recs = true) (hds : dstsOk (ops.toList.take t) = true) (hkill : kill = killOf (ops.toList.take t)) (hkn : KnOk recs kn) (hlo : lo ≤ S.m.next)
    {ρ0 : Nat → Value} {R0 O0 : Nat → Prop} {w0 : World} {Q : Exit → Act → World → Prop}
    (hfin : ∀ ρ R a w, Sat ρ R (view S kill recs kn (upto t) n) a w → a.defers = [] → Rel lo ρ0 R0 O0 w0 ρ R (Owns ρ (view S kill recs kn (upto t) n).m) w n → wpOpsIn (Fw r) 0 P ops Q (List.range' t (ops.size - t)) a w) :
    ∀ (fuel : Nat) (L : Array Bool) (ρ : Nat → Value) (R : Nat → Prop) (a : Act) (w : World), unl L.toList = fuel → DInv S kill ops t recs ρ R a w L → Rel lo ρ0 R0 O0 w0 ρ R (OwnsL S recs L ρ) w S.m.next →
      wpAnyIn (Fw r) 0 P .any ops Q fuel L a w := by
  have htn : t ≤ ops.size := by
    have := (tailAt_ge (clos ops.toList) 0).2
    simp [clos, cloGo_len] at this
    simp only [clos] at ht
    omega
  intro fuel
  induction fuel with
  | zero =>
    intro L ρ R a w hu hI hrel
    have hall := unl_zero _ hu
    have hL : ∀ i, i < ops.size → L.getD i false = true := fun i hi => by
      have h1 := hall i
      have h2 := hI.sz
      cases hc : L.getD i false with
      | true => rfl
      | false =>
        exfalso
        rw [← getD_tf (by omega)] at hc
        exact h1 (getD_false_iff.1 hc)
    have htt : t = ops.size := by
      rcases Nat.lt_or_eq_of_le htn with h | h
      · have := hI.tl t (Nat.le_refl _)
        rw [hL t h] at this; cases this
      · exact h
    have hv := ent_lvl (i := recs.length) (m := n) (fun j rc _ h => hg.top j rc h) hg.base hI (cl := upto t) (fun j hj => hL j (by have := (mem_upto t).1 hj; omega)) (kn := kn) (by rw [List.take_length]; exact hkn)
    rw [List.take_length] at hv
    have := hfin ρ R a w hv.1 hI.df ⟨hrel.fr.less hv.2, hrel.sub, hrel.ag, Nat.le_trans hlo hg.base, hrel.rn⟩
    refine tail_any hb ht 0 t L a w (by omega) (Nat.le_refl _) hI.sz (fun i => ⟨fun h => ?_, fun h => hL i (by omega)⟩) (by rw [htt, Nat.sub_self] at this; rw [htt]; exact this)
    rcases Nat.lt_or_ge i t with h' | h'
    · exact h'
    · rw [hI.tl i h'] at h; cases h
  | succ fuel ih =>
    intro L ρ R a w hu hI hrel
    by_cases hall : ∀ i, i < t → L.getD i false = true
    · -- all but the tail
      have hL : ∀ i, L.getD i false = true ↔ i < t := fun i => ⟨fun h => (by
        rcases Nat.lt_or_ge i t with h' | h'
        · exact h'
        · rw [hI.tl i h'] at h; cases h), hall i⟩
      have hv := ent_lvl (i := recs.length) (m := n) (fun j rc _ h => hg.top j rc h) hg.base hI (cl := upto t) (fun j hj => hall j ((mem_upto t).1 hj)) (kn := kn) (by rw [List.take_length]; exact hkn)
      rw [List.take_length] at hv
      have := hfin ρ R a w hv.1 hI.df ⟨hrel.fr.less hv.2, hrel.sub, hrel.ag, Nat.le_trans hlo hg.base, hrel.rn⟩
      have hcount : unl L.toList = ops.size - t := unl_tail L.toList t (by simp [hI.sz]; exact htn) (fun i hi => by
          have := hall i hi
          rw [Array.getD_eq_getD_getElem?, ← Array.getElem?_toList] at this
          have hs := hI.sz
          have hlt : i < L.toList.length := by simp; omega
          rw [List.getElem?_eq_getElem hlt] at this ⊢
          simpa using this) (fun i hi hi' => by
          have := hI.tl i hi
          rw [Array.getD_eq_getD_getElem?, ← Array.getElem?_toList] at this
          rw [List.getElem?_eq_getElem hi'] at this ⊢
          simpa using this) |>.trans (by simp [hI.sz])
      rw [hu] at hcount
      exact hcount ▸ tail_any hb ht (ops.size - t) t L a w (by omega) (Nat.le_refl _) hI.sz hL this
    · refine ⟨fun hr => ?_, fun i hi => ?_⟩
      · exfalso
        apply hall
        intro i hi
        have := ready_some hI.sz hb hr i (by omega)
        rw [getD_tf (by have := hI.sz; omega)] at this
        exact this
      · obtain ⟨o, ho, hun, hcl⟩ := ready_clos hI.dn hi
        have hlt := (Array.getElem?_eq_some_iff.1 ho).1
        have hsz := hI.sz
        have hclen : (clos ops.toList).length = ops.size := by simp [clos, cloGo_len]
        have hit : i < t := by
          rcases Nat.lt_or_ge i t with h' | h'
          · exact h'
          · exfalso
            apply hall
            intro j hj
            exact hcl j (tailAt_ok (clos ops.toList) 0 i (by omega) (by omega) j (by omega))
        obtain ⟨rc, hrc⟩ := nthR_some recs i (by omega)
        obtain ⟨o', ho', hrcl, hrd, hdst, hbase, hcase⟩ := hg.each i rc hrc
        have hoo : o' = o := by
          rw [List.getElem?_take, if_pos hit] at ho'
          rw [← Array.getElem?_toList, ho'] at ho
          simpa using ho
        subst hoo
        have hun' : L.getD i false = false := by rw [← getD_tf (by omega)]; exact hun
        have hclr : ∀ j ∈ rc.cl, L.getD j false = true := by rw [hrcl]; exact hcl
        have hu' : unl (L.setIfInBounds i true).toList = fuel := by
          have := unl_set L.toList i (getD_false_iff.1 hun)
          simp only [Array.toList_setIfInBounds]
          omega
        have next : ∀ {m : Mm} {v : Value} {ρ' : Nat → Value} {R' : Nat → Prop} {w' : World}, m.next = rc.n → QOk ρ R m w rc.q v ρ' R' w' → wpAnyIn (Fw r) 0 P .any ops Q fuel (L.setIfInBounds i true) (a.put o'.dst v) w' := by
          intro m v ρ' R' w' hmn hq
          obtain ⟨hI', hfr⟩ := hI.step hg hav hds hkill (by omega) hit hun' hcl hrc hmn hq
          rw [← hrd]
          refine ih _ ρ' R' _ w' hu' hI' (hrel.trans (lo' := S.m.next) ⟨hfr, hq.sub, fun k hk => hq.ag k (.inl (by omega)), Nat.le_refl _, fun b hb => (hq.sub' b hb).imp id (fun h => .inr h.1)⟩ hlo)
        unfold wpOpIn
        simp only [ho]
        rcases hcase with ⟨hgd, hq⟩ | ⟨hgd, kn', hkn', hq, hp⟩
        · rw [gok_wanted hg hI hclr hgd]
          simp only [Bool.false_eq_true, if_false]
          refine ⟨fun _ _ => trivial, next (m := ⟨S.m.mem, S.m.ro, rc.n⟩) (ρ' := ρ) (R' := R) rfl ?_⟩
          rw [hq]
          exact QOk.val (p := none) (sv := .raw undef) (v := undef) (m := ⟨S.m.mem, S.m.ro, rc.n⟩) (Den.mk rfl trivial)
        · rw [gok_wanted hg hI hclr hgd]
          simp only [if_true]
          have hv := ent_lvl (i := i) (m := rc.n) (fun j rj hj h => hg.ord j i rj rc hj h hrc) hbase hI (cl := rc.cl) hclr hkn'
          exact xqd_ok hE hv.1.m (fun x => evR_den hv.1 x) hq hp fun v ρ' R' w' hok => next rfl hok
where
  unl_tail : ∀ (l : List Bool) (t : Nat), t ≤ l.length → (∀ i, i < t → l[i]? = some true) → (∀ i, t ≤ i → i < l.length → l[i]? = some false) → unl l = l.length - t
    | [], t, h, _, _ => by simp [unl]
    | b :: l, 0, h, h1, h2 => by
      have := h2 0 (Nat.le_refl _) (by simp)
      simp only [List.getElem?_cons_zero, Option.some.injEq] at this
      subst this
      have := unl_tail l 0 (by omega) (fun i hi => by omega) (fun i _ hi => by simpa using h2 (i + 1) (by omega) (by simpa using hi))
      simp only [unl, List.length_cons]; omega
    | b :: l, t + 1, h, h1, h2 => by
      have := h1 0 (by omega)
      simp only [List.getElem?_cons_zero, Option.some.injEq] at this
      subst this
      have := unl_tail l t (by simpa using h) (fun i hi => by simpa using h1 (i + 1) (by omega)) (fun i hi hi' => by simpa using h2 (i + 1) (by omega) (by simpa using hi'))
      simp only [unl, List.length_cons]; omega

omit hE in
theorem dinv_start {S : St} {kill : List (Nat × SV)} {ops : Array Oper} {t : Nat} {recs : List Rc} {ρ : Nat → Value} {R : Nat → Prop} {a : Act} {w : World} (hS : Sat ρ R S a w) (hd : a.defers = []) (hds : ∀ o ∈ ops.toList.take t, dstOk S.nt o.dst = true) (hkill : kill = killOf (ops.toList.take t)) :
    DInv S kill ops t recs ρ R a w (Array.replicate ops.size false) ∧ ∀ b, OwnsL S recs (Array.replicate ops.size false) ρ b → Owns ρ S.m b := by
  have hL : ∀ i, (Array.replicate ops.size false).getD i false = false := fun i => by
    simp only [Array.getD_eq_getD_getElem?, Array.getElem?_replicate]
    split <;> rfl
  have no : ∀ i, (Array.replicate ops.size false).getD i false = true → False := fun i h => by rw [hL] at h; cases h
  have ent : ∀ id x lvl, Ent S recs (Array.replicate ops.size false) id x lvl → look S.m.mem id = some x ∧ lvl = S.m.next := by
    rintro id x lvl (⟨i, _, h, _⟩ | h)
    · exact (no i h).elim
    · exact h
  refine ⟨⟨by simp, fun i _ => hL i, fun i h => (no i h).elim, hd, hS.size, fun tt sv h => ?_, fun i rc h => (no i h).elim, fun i rc h => (no i h).elim, fun id x lvl h => ?_, fun id x lvl h => ?_, fun id x lvl id' x' lvl' hne h h' => ?_, fun id s lvl h => ?_, hS.m.Rlt⟩, ?_⟩
  · rw [look_append] at h
    split at h
    · rename_i y hy
      simp only [Option.some.injEq] at h
      subst h
      have hu := killOf_ok _ _ _ (hkill ▸ hy)
      obtain ⟨o, ho, hod⟩ := killOf_mem _ _ _ (hkill ▸ hy)
      have hlt : tt < a.tmps.size := by
        have := hds o ho
        rw [hod] at this
        rw [hS.size]
        simpa [dstOk] using this
      exact ⟨a.tmps[tt], by simp [hlt], .inl hu⟩
    · exact hS.regs tt sv h
  · obtain ⟨h1, rfl⟩ := ent id x lvl h
    exact hS.m.mem id x h1
  · exact hS.m.sep1 id x (ent id x lvl h).1
  · exact hS.m.sep2 id x id' x' hne (ent id x lvl h).1 (ent id' x' lvl' h').1
  · rcases h with ⟨i, _, h, _⟩ | ⟨h, rfl⟩
    · exact (no i h).elim
    · exact hS.m.ro id s h
  · rintro b ⟨id, x, lvl, h, hg, hb⟩
    exact ⟨id, x, (ent id x lvl h).1, hg, hb⟩
where
  killOf_mem : ∀ (l : List Oper) (t : Nat) (sv : SV), look (killOf l) t = some sv → ∃ o ∈ l, o.dst = some t
    | [], _, _, h => by simp [killOf, look] at h
    | o :: l, t, sv, h => by
      simp only [killOf] at h
      split at h
      · rename_i d hd
        simp only [look] at h
        split at h
        · rename_i hb
          exact ⟨o, by simp, by rw [hd, beqN_eq hb]⟩
        · obtain ⟨o', h1, h2⟩ := killOf_mem l t sv h
          exact ⟨o', by simp [h1], h2⟩
      · obtain ⟨o', h1, h2⟩ := killOf_mem l t sv h
        exact ⟨o', by simp [h1], h2⟩

/-- **A region that draws its order.** -/
theorem draw_ok {ci : CI} (hci : CIOk P ci) {id : Nat} {ops : Array Oper} {Q : Exit → St → Prop} {S : St} (h : drawOps E ci ops.toList S (fun S' => Q .normal S')) : SWP P r lo (.region id ops true) Q S := by
  intro ρ R a w hS hd hl
  unfold drawOps at h
  dsimp only at h
  split at h
  · exact h.out.elim
  · rename_i hchk
    simp only [Bool.and_eq_true] at hchk
    obtain ⟨hb, hds⟩ := hchk
    generalize ht : tailAt 0 (clos ops.toList) = t at h hds
    generalize hkill : killOf (ops.toList.take t) = kill at h
    obtain ⟨R1, hM1, hsub1, hnx1, hrn1⟩ := hS.m.frzL (wantsAll E (evR S.regs) (ops.toList.take t))
    have hown1 : ∀ b, Owns ρ (frzL S.m (wantsAll E (evR S.regs) (ops.toList.take t))) b → Owns ρ S.m b := fun b hb => owns_frzL _ hb
    generalize frzL S.m (wantsAll E (evR S.regs) (ops.toList.take t)) = m at h hM1 hnx1 hown1
    have hclen : (clos ops.toList).length = ops.size := by simp [clos, cloGo_len]
    have htn : t ≤ ops.size := by
      have := (tailAt_ge (clos ops.toList) 0).2
      omega
    obtain ⟨recs, kn, n, hg, hkn, hlen, hK⟩ := drawGo_elim (ops := ops.toList.take t) (cls := clos ops.toList) _ (recs := []) (kn := []) (n := m.next)
      ⟨by simp, fun i r h => by simp [nthR] at h, fun i j r r' _ h => by simp [nthR] at h, fun i r h => by simp [nthR] at h, Nat.le_refl _, fun i r h => by simp [nthR] at h⟩ (fun g d b h => by simp at h)
      (fun j x hx => by simpa using zipC_get _ _ j x hx) h
    rw [zipC_len _ _ (by simp [hclen]; omega)] at hlen
    simp only [List.length_nil, List.length_take, Nat.zero_add, Array.length_toList] at hlen
    rw [Nat.min_eq_left htn] at hlen
    split at hK
    · rename_i hav
      refine wpIn_region_any hE.mixed ?_
      have hS1 : Sat ρ R1 ⟨S.nt, S.regs, m⟩ a { w with drawn := w.drawn + 1 } := ⟨hM1.world rfl, hS.size, fun tt sv h => by
        obtain ⟨v, hv, hden⟩ := hS.regs tt sv h
        exact ⟨v, hv, by rw [hnx1]; exact hden⟩⟩
      have hdst : ∀ o ∈ ops.toList.take t, dstOk S.nt o.dst = true := fun o ho => by
        obtain ⟨i, hi⟩ := List.mem_iff_getElem?.1 ho
        have hil := (List.getElem?_eq_some_iff.1 hi).1
        obtain ⟨rc, hrc⟩ := nthR_some recs i (by rw [hlen]; simp at hil; omega)
        obtain ⟨o', ho', _, _, hd', _⟩ := hg.each i rc hrc
        rw [ho'] at hi
        simp only [Option.some.injEq] at hi
        subst hi
        exact hd'
      obtain ⟨hI, hown⟩ := dinv_start (recs := recs) hS1 hd (ops := ops) (t := t) hdst hkill.symm
      have hlo : lo ≤ m.next := by rw [hnx1]; exact hl
      refine draw_walk (lo := lo) (kn := kn) (S := ⟨S.nt, S.regs, m⟩) hE hg hlen ht hb hav hds hkill.symm hkn hlo (ρ0 := ρ) (R0 := R) (O0 := Owns ρ S.m) (w0 := w) ?_ ops.size _ ρ R1 a _ ?_ hI ?_
      · intro ρ' R' a' w' hS' hd' hr'
        have hdrop : ∀ (j : Nat), (ops.toList.drop t)[j]? = ops[t + j]? := fun j => by simp [List.getElem?_drop]
        have := seqOps_ok (r := r) (lo := lo) hE hci ops (ops.toList.drop t) t (view ⟨S.nt, S.regs, m⟩ kill recs kn (upto t) n) (K := fun S' => Q .normal S') hdrop hK hS' hd' hr' (Q := post lo ρ R (Owns ρ S.m) w Q)
          (fun S' ρ' R' a' w' hK hS' hd' hr' => ⟨ρ', R', S', hS', hd', hr', hK⟩)
        simpa using this
      · simp [unl_rep]
      · exact ⟨⟨rfl, rfl, rfl, Nat.le_refl _, fun _ _ _ => rfl, fun b hb => .inl (hown1 b (hown b hb))⟩, hsub1, agree.refl _ _, hlo, fun b hb => (hrn1 b hb).imp (fun h => h) .inl⟩
    · exact hK.out.elim
end
end SX

/-
  SX: the executor on code (all but drawn regions and loops), and that what it says holds.
-/
namespace SX
open Go

def thenQ (k : St → Prop) (Q : Exit → St → Prop) : Exit → St → Prop
  | .normal, S => k S
  | e, S => Q e S

def inBlockQ (id : Nat) (Q : Exit → St → Prop) : Exit → St → Prop
  | .exit id', S => match beqN id' id with
    | true => Q .normal S
    | false => Q (.exit id') S
  | e, S => Q e S

/-- One result. -/
def resOne (E : Env) (S : St) : ResultVar → Option SV
  | .tmp t => match look S.regs t with
    | some .unk => none
    | x => x
  | .cell a t => match E.T t, look S.regs a with
    | some ty, some (.at id off) => match look S.m.mem id with
      | some (.cells l) => match bleN (off + ty.ks.length) l.length with
        | true => pack ty.agg ((l.drop off).take ty.ks.length)
        | false => none
      | _ => none
    | _, _ => none

def resAll (E : Env) (S : St) : List ResultVar → Option (List SV)
  | [] => some []
  | x :: r => match resOne E S x with
    | some v => match resAll E S r with
      | some vs => some (v :: vs)
      | none => none
    | none => none

structure StuckR (fn : String) (S : St) : Prop where
  out : False

def retQ (E : Env) (fn : Func) (K : SV → Mm → Prop) : Exit → St → Prop
  | .ret, S => match resAll E S fn.results.toList with
    | some vs => K (one vs) S.m
    | none => StuckR fn.name S
  | .normal, S => match resAll E S fn.results.toList with
    | some vs => K (one vs) S.m
    | none => StuckR fn.name S
  | _, S => StuckR fn.name S

def vc (P : Program) (E : Env) (r : Option Nat) (lo : Nat) (ci : CI) : Code → (Exit → St → Prop) → St → Prop
  | .skip, Q, S => Q .normal S
  | .label _, Q, S => Q .normal S
  | .seq a b, Q, S => vc P E r lo ci a (thenQ (fun S' => vc P E r lo ci b Q S') Q) S
  | .ret, Q, S => Q .ret S
  | .exit id, Q, S => Q (.exit id) S
  | .block id b, Q, S => vc P E r lo ci b (inBlockQ id Q) S
  | .cond c a b, Q, S => match evR S.regs c with
    | .bool true => vc P E r lo ci a Q S
    | .bool false => vc P E r lo ci b Q S
    | .prop p => Br p (fun _ => vc P E r lo ci a Q S) (fun _ => vc P E r lo ci b Q S)
    | _ => StuckC (.cond c .skip .skip) S
  | .region _ ops draw, Q, S => match draw with
    | false => seqOps E ci ops.toList ops.toList S (fun S' => Q .normal S')
    | true => drawOps E ci ops.toList S (fun S' => Q .normal S')
  | c, Q, S => Leaf P r lo c Q S

/-- The slots of a callee at its start. -/
def enterRegs : Nat → List SV → List (Nat × SV)
  | _, [] => []
  | t, v :: vs => (t, v) :: enterRegs (t + 1) vs

def ciN (P : Program) (E : Env) : Nat → CI
  | 0, _, _, _, _ => False
  | n + 1, fn, args, m, K => match fn.body with
    | some c => match bleN args.length fn.ntmps with
      | true => vc P E none m.next (ciN P E n) c (retQ E fn K) ⟨fn.ntmps, enterRegs 0 args, m⟩
      | false => False
    | none => False

section
variable {P : Program} {E : Env}

theorem post_mono {lo : Nat} {ρ0 ρ1 : Nat → Value} {R0 R1 O0 O1 : Nat → Prop} {w0 w1 : World} {n1 : Nat} {Q : Exit → St → Prop} (h : Rel lo ρ0 R0 O0 w0 ρ1 R1 O1 w1 n1) {e : Exit} {a : Act} {w : World} (hp : post lo ρ1 R1 O1 w1 Q e a w) :
    post lo ρ0 R0 O0 w0 Q e a w := by
  obtain ⟨ρ, R, S, hS, hd, hr, hq⟩ := hp
  exact ⟨ρ, R, S, hS, hd, h.trans hr (Nat.le_refl _), hq⟩

variable (hE : EnvOk E P) {r : Option Nat} {lo : Nat}
include hE

theorem vc_sound {ci : CI} (hci : CIOk P ci) : ∀ (c : Code) (Q : Exit → St → Prop) (S : St), vc P E r lo ci c Q S → SWP P r lo c Q S
  | .skip, Q, S, h => fun ρ R a w hS hd hl => wpIn_skip ⟨ρ, R, S, hS, hd, Rel.refl hl, h⟩
  | .label _, Q, S, h => fun ρ R a w hS hd hl => wpIn_label ⟨ρ, R, S, hS, hd, Rel.refl hl, h⟩
  | .ret, Q, S, h => fun ρ R a w hS hd hl => wpIn_ret ⟨ρ, R, S, hS, hd, Rel.refl hl, h⟩
  | .exit id, Q, S, h => fun ρ R a w hS hd hl => wpIn_exit ⟨ρ, R, S, hS, hd, Rel.refl hl, h⟩
  | .seq c1 c2, Q, S, h => fun ρ R a w hS hd hl => by
    refine wpIn_seq (wpIn_mono (vc_sound hci c1 _ S h ρ R a w hS hd hl) ?_)
    rintro e a' w' ⟨ρ', R', S', hS', hd', hr', hq⟩
    cases e with
    | normal =>
      refine wpIn_mono (vc_sound hci c2 Q S' hq ρ' R' a' w' hS' hd' hr'.le) fun e a w hp => post_mono hr' hp
    | _ => exact ⟨ρ', R', S', hS', hd', hr', hq⟩
  | .block id c, Q, S, h => fun ρ R a w hS hd hl => by
    refine wpIn_block (wpIn_mono (vc_sound hci c _ S h ρ R a w hS hd hl) ?_)
    rintro e a' w' ⟨ρ', R', S', hS', hd', hr', hq⟩
    cases e with
    | exit id' =>
      simp only [Exit.inBlock]
      simp only [inBlockQ] at hq
      split at hq
      · rename_i hb
        rw [if_pos (beqN_eq hb)]
        exact ⟨ρ', R', S', hS', hd', hr', hq⟩
      · rename_i hb
        rw [if_neg (fun e => by subst e; simp at hb)]
        exact ⟨ρ', R', S', hS', hd', hr', hq⟩
    | _ => exact ⟨ρ', R', S', hS', hd', hr', hq⟩
  | .cond x c1 c2, Q, S, h => fun ρ R a w hS hd hl => by
    have hx := evR_den hS x
    simp only [vc] at h
    split at h
    · rename_i he
      rw [he] at hx
      exact wpIn_cond_true (den_bool hx) (vc_sound hci c1 Q S h ρ R a w hS hd hl)
    · rename_i he
      rw [he] at hx
      exact wpIn_cond_false (den_bool hx) (vc_sound hci c2 Q S h ρ R a w hS hd hl)
    · rename_i p he
      rw [he] at hx
      refine wpIn_cond_split (den_prop hx) (fun ht => ?_) (fun hf => ?_)
      · exact vc_sound hci c1 Q S (h.t ((@decide_eq_true_iff _ (Classical.propDecidable _)).1 ht)) ρ R a w hS hd hl
      · exact vc_sound hci c2 Q S (h.e ((@decide_eq_false_iff_not _ (Classical.propDecidable _)).1 hf)) ρ R a w hS hd hl
    · exact h.out.elim
  | .region id ops draw, Q, S, h => fun ρ R a w hS hd hl => by
    simp only [vc] at h
    cases draw with
    | true => exact draw_ok hE hci h ρ R a w hS hd hl
    | false =>
      refine wpIn_region ?_
      rw [List.range_eq_range']
      have := seqOps_ok (r := r) (lo := lo) hE hci ops ops.toList 0 S (K := fun S' => Q .normal S') (fun j => by simp) h hS hd (Rel.refl hl) (Q := post lo ρ R (Owns ρ S.m) w Q)
        (fun S' ρ' R' a' w' hK hS' hd' hr' => ⟨ρ', R', S', hS', hd', hr', hK⟩)
      simpa using this
  | .loop c, Q, S, h => Leaf.out h
  | .rangeFunc .., Q, S, h => Leaf.out h
  | .scope .., Q, S, h => Leaf.out h
  | .goto .., Q, S, h => Leaf.out h
  | .refuse .., Q, S, h => Leaf.out h

def resSem (tmps : Array Value) : ResultVar → Sem Value
  | .tmp t => pure (tmps.getD t undef)
  | .cell y t => do loadVar t (← asAddr (tmps.getD y undef))

omit hE in
theorem resOne_ok (hT : ∀ t ty, E.T t = some ty → TyOk P E.T t ty) {S : St} {ρ : Nat → Value} {R : Nat → Prop} {a : Act} {w : World} (hS : Sat ρ R S a w) {x : ResultVar} {sv : SV} (h : resOne E S x = some sv) :
    sv.lt ρ S.m.next ∧ (resSem a.tmps x).run P w = .ok (den ρ sv) w := by
  cases x with
  | tmp t =>
    simp only [resOne] at h
    split at h
    · cases h
    · rename_i hno
      obtain ⟨v, hv, hden⟩ := hS.regs t sv h
      rcases hden with hden | ⟨h1, h2⟩
      · subst hden; exact absurd h hno
      · exact ⟨h2, by simp [resSem, Array.getD_eq_getD_getElem?, hv, h1]⟩
  | cell y t =>
    simp only [resOne] at h
    split at h
    · rename_i ty id off hty hy
      obtain ⟨v, hv, hden⟩ := hS.regs y _ hy
      obtain ⟨hx', hidlt, _⟩ := den_at hden
      have hok := hT _ _ hty
      split at h
      · rename_i l hl
        split at h
        · rename_i hle
          have hle : off + ty.ks.length ≤ l.length := by simpa using hle
          obtain ⟨_, hltl, _, b, tt, hρ, hh⟩ := hS.m.mem _ _ hl
          have hlt' : ltL ρ S.m.next ((l.drop off).take ty.ks.length) := by
            rw [ltL_iff] at hltl ⊢
            exact fun y hy => hltl y (List.mem_of_mem_drop (List.mem_of_mem_take hy))
          obtain ⟨hvlt, hvd⟩ := pack_ok h hlt'
          have hlen : (denL ρ ((l.drop off).take ty.ks.length)).length = ty.ks.length := by
            rw [denL_length, List.length_take, List.length_drop]; omega
          have hcells : ∀ j u, (denL ρ ((l.drop off).take ty.ks.length))[j]? = some u → w.cell? ((⟨b, off, none⟩ : Addr).add j) = some u := by
            intro j u hu
            have : (⟨b, off, none⟩ : Addr).add j = ⟨b, off + j, none⟩ := by rw [← add0 b off, add_add, add0]
            rw [this, cell_of_row w b _ _ tt (0, 0) hh]
            simp only [List.getElem?_toArray, denL_get, List.getElem?_take, List.getElem?_drop] at hu ⊢
            split at hu
            · exact hu
            · simp at hu
          have hrun := run_loadVar_cells hok w ⟨b, off, none⟩ _ hlen hcells
          have haddr : a.tmps.getD y undef = .pointer (some ⟨b, off, none⟩) := by
            rw [Array.getD_eq_getD_getElem?, hv, hx', hρ]; simp [shiftV, add0]
          refine ⟨hvlt, ?_⟩
          rcases hvd with ⟨hag, hvd⟩ | ⟨hag, z, hz, rfl⟩
          · simp [resSem, haddr, asAddr, hrun.1 hag, hvd]
          · have := hrun.2 hag (den ρ sv) (by rw [hz]; rfl)
            simp [resSem, haddr, asAddr, this]
        · cases h
      · cases h
    · cases h

omit hE in
theorem results_ok (hT : ∀ t ty, E.T t = some ty → TyOk P E.T t ty) {S : St} {ρ : Nat → Value} {R : Nat → Prop} {a : Act} {w : World} (hS : Sat ρ R S a w) {fn : Func} {vs : List SV} (h : resAll E S fn.results.toList = some vs) :
    (one vs).lt ρ S.m.next ∧ ltL ρ S.m.next vs ∧ (results fn a.tmps).run P w = .ok (den ρ (one vs)) w := by
  have key : ∀ (l : List ResultVar) (vs : List SV), resAll E S l = some vs → ltL ρ S.m.next vs ∧ (l.mapM (resSem a.tmps)).run P w = .ok (denL ρ vs) w := by
    intro l
    induction l with
    | nil =>
      intro vs h
      simp only [resAll, Option.some.injEq] at h
      subst h
      exact ⟨trivial, by simp [denL]⟩
    | cons x l ih =>
      intro vs h
      simp only [resAll] at h
      split at h
      · rename_i v hv
        split at h
        · rename_i ws hws
          simp only [Option.some.injEq] at h
          subst h
          obtain ⟨h1, h2⟩ := resOne_ok hT hS hv
          obtain ⟨h3, h4⟩ := ih ws hws
          refine ⟨⟨h1, h3⟩, ?_⟩
          rw [List.mapM_cons, Sem.run_bind, h2, Result.andThen_ok, Sem.run_bind, h4, Result.andThen_ok, Sem.run_pure, denL]
        · cases h
      · cases h
  obtain ⟨h1, h2⟩ := key _ _ h
  have e : (results fn a.tmps).run P w = .ok (let vs := (denL ρ vs).toArray; if h : vs.size = 1 then vs[0] else .tuple vs) w := by
    have e1 : results fn a.tmps = (do
        let vs ← fn.results.mapM (resSem a.tmps)
        pure (if h : vs.size = 1 then vs[0] else .tuple vs)) := by
      unfold results
      congr 1
    rw [e1, Array.mapM_eq_mapM_toList, map_eq_pure_bind, Sem.run_bind, Sem.run_bind, h2, Result.andThen_ok, Sem.run_pure, Result.andThen_ok, Sem.run_pure]
  rw [e]
  clear e h2 h key
  match vs, h1 with
  | [], h1 => exact ⟨trivial, h1, by simp [one, den, denL]⟩
  | [x], h1 => exact ⟨h1.1, h1, by simp [one, denL]⟩
  | x :: y :: r, h1 => exact ⟨h1, h1, by simp [one, den, denL]⟩

omit hE in
theorem enterRegs_look : ∀ (args : List SV) (k t : Nat) (sv : SV), look (enterRegs k args) t = some sv → k ≤ t ∧ args[t - k]? = some sv
  | [], _, _, _, h => by simp [enterRegs, look] at h
  | v :: vs, k, t, sv, h => by
    simp only [enterRegs, look] at h
    split at h
    · rename_i hb
      have := beqN_eq hb
      subst this
      simp only [Option.some.injEq] at h
      subst h
      exact ⟨Nat.le_refl _, by simp⟩
    · obtain ⟨h1, h2⟩ := enterRegs_look vs (k + 1) t sv h
      exact ⟨by omega, by rw [show t - k = (t - (k + 1)) + 1 by omega]; simpa using h2⟩

theorem ciN_ok : ∀ n, CIOk P (ciN P E n)
  | 0 => fun _ _ _ _ _ _ h => h.elim
  | n + 1 => by
    intro f fn args m K hf h ρ R w vals hM hvals hlt
    simp only [ciN] at h
    split at h
    · rename_i c hb
      split at h
      · rename_i hle
        have hle : args.length ≤ fn.ntmps := by simpa using hle
        have hlen : vals.length = args.length := by rw [hvals, denL_length]
        have hS : Sat ρ R ⟨fn.ntmps, enterRegs 0 args, m⟩ { tmps := vals.toArray ++ Array.replicate (fn.ntmps - vals.toArray.size) undef, defers := [] } w := by
          refine ⟨hM, by simp [hlen]; omega, fun t sv h => ?_⟩
          obtain ⟨_, h1⟩ := enterRegs_look _ _ _ _ h
          rw [Nat.sub_zero] at h1
          refine ⟨den ρ sv, ?_, .inr ⟨rfl, (ltL_iff _ _ _).1 hlt _ (List.mem_of_getElem? h1)⟩⟩
          have ht : t < args.length := (List.getElem?_eq_some_iff.1 h1).1
          rw [Array.getElem?_append_left (by simpa [hlen] using ht)]
          simp [hvals, denL_get, h1]
        have hw := vc_sound (r := none) hE (ciN_ok n) c _ _ h ρ R _ w hS rfl (Nat.le_refl _)
        refine callsIn_wide.1 (callsIn_of_wp hf hb trivial (wpIn_mono hw ?_))
        rintro e a' w' ⟨ρ', R', S', hS', hd', hr', hq⟩
        have fin : (match resAll E S' fn.results.toList with
            | some vs => K (one vs) S'.m
            | none => StuckR fn.name S') → a'.defers = [] ∧ ∃ v, (results fn a'.tmps).run P w' = .ok v w' ∧
              ∃ u ρ'' R'' m' sv, Ending.returned v = .returned u ∧ SatM ρ'' R'' m' w' ∧ Rel m.next ρ R (Owns ρ m) w ρ'' R'' (Owns ρ'' m') w' m'.next ∧ Den ρ'' m'.next sv u ∧ K sv m' := by
          intro hq
          split at hq
          · rename_i vs hvs
            obtain ⟨h1, _, h3⟩ := results_ok hE.T hS' hvs
            exact ⟨hd', _, h3, _, ρ', R', S'.m, _, rfl, hS'.m, hr', .inr ⟨rfl, h1⟩, hq⟩
          · exact hq.out.elim
        cases e with
        | normal => exact fin hq
        | ret => exact fin hq
        | _ => exact (StuckR.out hq).elim
      · exact h.elim
    · exact h.elim
end
end SX

/-
  SX: the law of a function, from its code.
-/
namespace SX
open Go

mutual
def dEq : Kd → D → D → Prop
  | .int _, d, e => d.i = e.i
  | .bool, d, e => (d.p ↔ e.p)
  | .str, d, e => d.s = e.s
  | .sl ks, d, e => d.n = e.n ∧ ∀ r, r < d.n → dEqs ks (d.row r) (e.row r) 0
  | .fnc _, _, _ => True
  | .raw _, _, _ => True
def dEqs : List Kd → (Nat → D) → (Nat → D) → Nat → Prop
  | [], _, _, _ => True
  | k :: ks, f, g, c => dEq k (f c) (g c) ∧ dEqs ks f g (c + 1)
end

structure DEq (k : Kd) (d e : D) : Prop where
  out : dEq k d e

def eqRow : List Kd → List D → (Nat → D) → Nat → Prop
  | [], [], _, _ => True
  | k :: ks, d :: ds, g, c => DEq k d (g c) ∧ eqRow ks ds g (c + 1)
  | _, _, _, _ => False

def eqRes (f : Nat → Nat → D) : List (Bool × List Kd) → List (List D) → Nat → Prop
  | [], [], _ => True
  | (_, ks) :: r, d :: ds, i => eqRow ks d (f i) 0 ∧ eqRes f r ds (i + 1)
  | _, _, _ => False

def retP (E : Env) (fn : Func) (sg : Sig) (f : Nat → Nat → D) (S : St) : Prop :=
  match resAll E S fn.results.toList with
  | some vs => match frzL S.m vs with
    | m => match aggOk sg.results vs && plainArgs m vs with
      | true => match argsD E.A m sg.results vs with
        | some ds => eqRes f sg.results ds 0
        | none => StuckR fn.name S
      | false => StuckR fn.name S
  | none => StuckR fn.name S

def retX (E : Env) (fn : Func) (sg : Sig) (f : Nat → Nat → D) : Exit → St → Prop
  | .ret, S => retP E fn sg f S
  | .normal, S => retP E fn sg f S
  | _, S => StuckR fn.name S

def fnVC (P : Program) (E : Env) (n : Nat) (fn : Func) (sg : Sig) (f : Nat → Nat → D) (ds : List (List D)) : Prop :=
  match fn.body with
  | some c => match resSV E.A (fun i c => (ds.getD i []).getD c .nil) sg.params 0 0 with
    | some (vs, l, nx) => match bleN vs.length fn.ntmps with
      | true => vc P E none nx (ciN P E n) c (retX E fn sg f) ⟨fn.ntmps, enterRegs 0 vs, ⟨[], l, nx⟩⟩
      | false => False
    | none => False
  | none => False

mutual
/-- Lengths are those of slices. -/
def LenOk : Kd → D → Prop
  | .sl ks, d => d.n ≤ maxLen ∧ ∀ r, r < d.n → LenOks ks (d.row r) 0
  | _, _ => True
def LenOks : List Kd → (Nat → D) → Nat → Prop
  | [], _, _ => True
  | k :: ks, f, c => LenOk k (f c) ∧ LenOks ks f (c + 1)
end

mutual
theorem LenOk.of {w : World} {R : Nat → Prop} : ∀ (k : Kd) (d : D) (u : Value), RdK w R k d u → LenOk k d
  | .int _, _, _, _ => by simp [LenOk]
  | .bool, _, _, _ => by simp [LenOk]
  | .str, _, _, _ => by simp [LenOk]
  | .fnc _, _, _, _ => by simp [LenOk]
  | .raw _, _, _, _ => by simp [LenOk]
  | .sl ks, d, u, h => by
    simp only [RdK, LenOk] at *
    obtain ⟨a, cap, _, h2, h3, h4⟩ := h
    exact ⟨by omega, fun r hr => let ⟨_, _, _, hc⟩ := h4 r hr; LenOks.of ks _ _ 0 hc⟩
theorem LenOks.of {w : World} {R : Nat → Prop} : ∀ (ks : List Kd) (f : Nat → D) (g : Nat → Option Value) (c : Nat), RdKs w R ks f g c → LenOks ks f c
  | [], _, _, _, _ => by simp [LenOks]
  | k :: ks, f, g, c, h => by
    simp only [RdKs, LenOks] at *
    obtain ⟨⟨u, _, hk⟩, hr⟩ := h
    exact ⟨LenOk.of k _ u hk, LenOks.of ks f g (c + 1) hr⟩
end

def lenH (k : Kd) (d : D) (K : Prop) : Prop :=
  match k with
  | .sl _ => LenOk k d → K
  | _ => K

def allDs : List Kd → (List D → Prop) → Prop
  | [], k => k []
  | kd :: r, k => ∀ d : D, lenH kd d (allDs r (fun l => k (d :: l)))

def allPs : List (Bool × List Kd) → (List (List D) → Prop) → Prop
  | [], k => k []
  | (_, ks) :: r, k => allDs ks (fun d => allPs r (fun l => k (d :: l)))

theorem lenShift : ∀ (ks : List Kd) (f g : Nat → D) (c c' : Nat), (∀ j, f (c + j) = g (c' + j)) → LenOks ks g c' → LenOks ks f c
  | [], _, _, _, _, _, _ => by simp [LenOks]
  | k :: ks, f, g, c, c', h, hl => by
    simp only [LenOks] at hl ⊢
    refine ⟨by have := h 0; rw [Nat.add_zero, Nat.add_zero] at this; rw [this]; exact hl.1, lenShift ks f g (c + 1) (c' + 1) (fun j => ?_) hl.2⟩
    have := h (j + 1)
    rw [show c + 1 + j = c + (j + 1) by omega, show c' + 1 + j = c' + (j + 1) by omega]
    exact this

theorem allDs_ok : ∀ (ks : List Kd) (k : List D → Prop), allDs ks k → ∀ l : List D, l.length = ks.length → (∀ (f : Nat → D) (c : Nat), (∀ j, f (c + j) = l.getD j .nil) → LenOks ks f c) → k l
  | [], k, h, l, hl, _ => by
    have : l = [] := List.length_eq_zero_iff.1 (by simpa using hl)
    subst this; exact h
  | _ :: r, k, h, [], hl, _ => by simp at hl
  | kd :: r, k, h, d :: l, hl, hlen => by
    have hd : LenOk kd d := by
      have := (hlen (fun j => (d :: l).getD j .nil) 0 (fun j => by simp)).1
      simpa using this
    have h1 : allDs r (fun l => k (d :: l)) := by
      have := h d
      unfold lenH at this
      split at this
      · exact this hd
      · exact this
    refine allDs_ok r _ h1 l (by simpa using hl) fun f c hf => ?_
    cases c with
    | zero =>
      refine lenShift r f (fun j => (d :: l).getD j .nil) 0 1 (fun j => ?_) (hlen (fun j => (d :: l).getD j .nil) 0 (fun j => by simp)).2
      rw [hf]
      simp [Nat.add_comm 1 j]
    | succ c =>
      refine lenShift r f (fun j => (d :: l).getD (j - c) .nil) (c + 1) (c + 1) (fun j => ?_) (hlen (fun j => (d :: l).getD (j - c) .nil) c (fun j => by simp)).2
      rw [hf, show c + 1 + j - c = j + 1 by omega]
      simp

theorem allPs_ok {w : World} {R : Nat → Prop} : ∀ (ps : List (Bool × List Kd)) (k : List (List D) → Prop), allPs ps k → ∀ (ds : List (List D)) (vs : List Value), ArgsRd w R ps ds vs → k ds
  | [], k, h, ds, vs, hr => by
    cases ds with
    | nil => exact h
    | cons d ds => simp [ArgsRd] at hr
  | (g, ks) :: r, k, h, ds, vs, hr => by
    cases ds with
    | nil => simp [ArgsRd] at hr
    | cons d ds =>
      cases vs with
      | nil => simp [ArgsRd] at hr
      | cons v vs =>
        simp only [ArgsRd] at hr
        exact allPs_ok r _ (allDs_ok ks _ h d hr.1 fun f c hf => by
        obtain ⟨cs, _, _, _, h4⟩ := hr.2.1
        exact lenShift ks f (fun c => d.getD c .nil) c 0 (fun j => by rw [hf, Nat.zero_add]) (LenOks.of ks _ _ 0 h4)) ds vs hr.2.2

theorem resRd_of_args {w : World} {R : Nat → Prop} {f : Nat → Nat → D} : ∀ (ps : List (Bool × List Kd)) (ds : List (List D)) (vs : List Value) (i : Nat), ArgsRd w R ps ds vs →
    (∀ j, (ds[j]?).getD [] = (ds[j]?).getD [] → f (i + j) = fun c => ((ds[j]?).getD []).getD c .nil) → ResRd w R f ps i vs
  | [], ds, vs, i, h, _ => by
    cases ds <;> cases vs <;> simp_all [ArgsRd, ResRd]
  | (g, ks) :: r, ds, vs, i, h, hf => by
    cases ds with
    | nil => simp [ArgsRd] at h
    | cons d ds =>
      cases vs with
      | nil => simp [ArgsRd] at h
      | cons v vs =>
        simp only [ArgsRd] at h
        refine ⟨?_, resRd_of_args r ds vs (i + 1) h.2.2 (fun j _ => ?_)⟩
        · have := hf 0 rfl
          rw [Nat.add_zero] at this
          rw [this]
          exact h.2.1
        · have := hf (j + 1) rfl
          rw [show i + 1 + j = i + (j + 1) by omega, this]
          simp

mutual
theorem RdK_eq {w : World} {R : Nat → Prop} : ∀ (k : Kd) (d e : D) (u : Value), dEq k d e → RdK w R k d u → RdK w R k e u
  | .int _, d, e, u, h, hr => by simp only [dEq, RdK] at *; rw [hr, h]
  | .bool, d, e, u, h, hr => by
    simp only [dEq, RdK] at *
    rw [hr, propext h]
  | .str, d, e, u, h, hr => by simp only [dEq, RdK] at *; rw [hr, h]
  | .fnc _, _, _, _, _, hr => by simpa only [RdK] using hr
  | .raw _, _, _, _, _, _ => by simp [RdK]
  | .sl ks, d, e, u, h, hr => by
    simp only [dEq, RdK] at *
    obtain ⟨a, cap, h1, h2, h3, h4⟩ := hr
    refine ⟨a, cap, by rw [← h.1]; exact h1, by rw [← h.1]; exact h2, h3, fun r hr => ?_⟩
    have hr' : r < d.n := by rw [h.1]; exact hr
    obtain ⟨ad, ha, hb, hc⟩ := h4 r hr'
    exact ⟨ad, ha, hb, RdKs_eq ks _ _ _ 0 (h.2 r hr') hc⟩
theorem RdKs_eq {w : World} {R : Nat → Prop} : ∀ (ks : List Kd) (f g : Nat → D) (c : Nat → Option Value) (n : Nat), dEqs ks f g n → RdKs w R ks f c n → RdKs w R ks g c n
  | [], _, _, _, _, _, _ => by simp [RdKs]
  | k :: ks, f, g, c, n, h, hr => by
    simp only [dEqs, RdKs] at *
    obtain ⟨⟨u, hu, hk⟩, h2⟩ := hr
    exact ⟨⟨u, hu, RdK_eq k _ _ u h.1 hk⟩, RdKs_eq ks _ _ _ _ h.2 h2⟩
end

theorem eqRow_ok : ∀ (ks : List Kd) (d : List D) (g : Nat → D) (c : Nat) (f : Nat → D), eqRow ks d g c → (∀ j, f (c + j) = d.getD j .nil) → dEqs ks f g c
  | [], _, _, _, _, _, _ => by simp [dEqs]
  | k :: ks, [], _, _, _, h, _ => by simp [eqRow] at h
  | k :: ks, d :: ds, g, c, f, h, hf => by
    simp only [eqRow] at h
    refine ⟨?_, eqRow_ok ks ds g (c + 1) f h.2 (fun j => ?_)⟩
    · have := hf 0
      rw [Nat.add_zero] at this
      rw [this]
      exact h.1.out
    · rw [show c + 1 + j = c + (j + 1) by omega, hf]
      simp

theorem resRd_of_eq {w : World} {R : Nat → Prop} {f : Nat → Nat → D} : ∀ (ps : List (Bool × List Kd)) (ds : List (List D)) (vs : List Value) (i : Nat), ArgsRd w R ps ds vs → eqRes f ps ds i → ResRd w R f ps i vs
  | [], ds, vs, i, h, _ => by
    cases ds <;> cases vs <;> simp_all [ArgsRd, ResRd]
  | (g, ks) :: r, ds, vs, i, h, he => by
    cases ds with
    | nil => simp [ArgsRd] at h
    | cons d ds =>
      cases vs with
      | nil => simp [ArgsRd] at h
      | cons v vs =>
        simp only [ArgsRd] at h
        simp only [eqRes] at he
        refine ⟨?_, resRd_of_eq r ds vs (i + 1) h.2.2 he.2⟩
        obtain ⟨cs, h1, h2, h3, h4⟩ := h.2.1
        exact ⟨cs, h1, h2, h3, RdKs_eq ks _ _ _ 0 (eqRow_ok ks d _ 0 _ he.1 (fun j => by simp)) h4⟩

theorem one_oneVal {ρ : Nat → Value} : ∀ vs : List SV, den ρ (one vs) = oneVal (denL ρ vs)
  | [] => rfl
  | [_] => rfl
  | _ :: _ :: _ => rfl

/-- **The law of a function, from its code.** -/
theorem PureFn.of_vc {P : Program} {E : Env} (hE : EnvOk E P) (n : Nat) {f : Nat} {fn : Func} {sg : Sig} {pre : List (List D) → Prop} {res : List (List D) → Nat → Nat → D} (hf : P.funcs[f]? = some fn)
    (h : allPs sg.params fun ds => pre ds → fnVC P E n fn sg (res ds) ds) : PureFn P sg f pre res := by
  intro w R args ds hlt hargs hpre
  have h := allPs_ok _ _ h ds args hargs hpre
  unfold fnVC at h
  split at h
  · rename_i c hb
    split at h
    · rename_i vs l nx hsv
      split at h
      · rename_i hle
        have hle : vs.length ≤ fn.ntmps := by simpa using hle
        have hrd : ResRd w R (fun i c => (ds.getD i []).getD c .nil) sg.params 0 args :=
          resRd_of_args _ _ _ 0 hargs (fun j _ => by simp [List.getD_eq_getElem?_getD])
        obtain ⟨ρ, hle0, hag, hltl, hus, hro⟩ := resSV_ok sg.params 0 0 (fun _ => undef) (by rw [← hE.A]; exact hsv) hrd
        have hM : SatM ρ R ⟨[], l, nx⟩ w := by
          refine ⟨fun id r h => by simp [look] at h, fun id r h => by simp [look] at h, fun id r _ _ _ h => by simp [look] at h, fun id s h => ?_, hlt⟩
          obtain ⟨⟨_, h1⟩, h2⟩ := hro id s h
          exact ⟨h1, h2⟩
        have hlen : args.length = vs.length := by rw [hus, denL_length]
        have hS : Sat ρ R ⟨fn.ntmps, enterRegs 0 vs, ⟨[], l, nx⟩⟩ { tmps := args.toArray ++ Array.replicate (fn.ntmps - args.toArray.size) undef, defers := [] } w := by
          refine ⟨hM, by simp [hlen]; omega, fun t sv h => ?_⟩
          obtain ⟨_, h1⟩ := enterRegs_look _ _ _ _ h
          rw [Nat.sub_zero] at h1
          refine ⟨den ρ sv, ?_, .inr ⟨rfl, (ltL_iff _ _ _).1 hltl _ (List.mem_of_getElem? h1)⟩⟩
          have ht : t < vs.length := (List.getElem?_eq_some_iff.1 h1).1
          rw [Array.getElem?_append_left (by simpa [hlen] using ht)]
          simp [hus, denL_get, h1]
        have hw := vc_sound (r := none) hE (ciN_ok hE n) c _ _ h ρ R _ w hS rfl (Nat.le_refl _)
        refine callsIn_wide.1 (callsIn_of_wp hf hb trivial (wpIn_mono hw ?_))
        rintro e a' w' ⟨ρ', R', S', hS', hd', hr', hq⟩
        have fin : retP E fn sg (res ds) S' → a'.defers = [] ∧ ∃ v, (results fn a'.tmps).run P w' = .ok v w' ∧
            ∃ us R2, Ending.returned v = .returned (oneVal us) ∧ Grow w w' ∧ (∀ b, R b → R2 b) ∧ (∀ b, R2 b → R b ∨ (w.heap.size ≤ b ∧ b < w'.heap.size)) ∧ ResRd w' R2 (res ds) sg.results 0 us := by
          intro hq
          unfold retP at hq
          split at hq
          · rename_i us hus'
            obtain ⟨h1, h2, h3⟩ := results_ok hE.T hS' hus'
            obtain ⟨R2, hM2, hsub2, hnx2, hrn2⟩ := hS'.m.frzL us
            dsimp only at hq
            generalize hm : frzL S'.m us = m at hq hM2 hnx2
            split at hq
            · rename_i hag2
              simp only [Bool.and_eq_true] at hag2
              split at hq
              · rename_i ds' hds'
                have hnone : ∀ b, ¬ Owns ρ ⟨[], l, nx⟩ b := by rintro b ⟨id, x, hx, _⟩; simp [look] at hx
                have hR2 : ∀ b, R2 b → R b ∨ w.heap.size ≤ b := by
                  intro b hb
                  rcases hrn2 b hb with hb | hb
                  · rcases hr'.rn b hb with h | h | h
                    · exact .inl h
                    · exact (hnone b h).elim
                    · exact .inr h
                  · exact (hr'.fr.own b hb).elim (fun h => (hnone b h).elim) .inr
                refine ⟨hd', _, h3, denL ρ' us, R2, by rw [one_oneVal], ⟨hr'.fr.os, hr'.fr.tape, hr'.fr.output, hr'.fr.size, fun b hb => hr'.fr.keep b hb (hnone b)⟩,
                  fun b hb => hsub2 b (hr'.sub b hb), fun b hb => (hR2 b hb).imp id (fun h => ⟨h, hM2.Rlt b hb⟩), ?_⟩
                refine resRd_of_eq _ ds' _ 0 ?_ hq
                refine argsD_rd hE.A (ρ := ρ') (m := m) _ us _ ds' (fun j sv hj => ?_) (by rw [denL_length]) (fun sv hsv x hx id s hxe hs => ?_) hag2.1 hds'
                · exact ⟨den ρ' sv, by rw [denL_get, hj]; rfl, .inr ⟨rfl, by rw [hnx2]; exact (ltL_iff _ _ _).1 h2 _ (List.mem_of_getElem? hj)⟩⟩
                · have h1 := List.all_eq_true.1 (List.all_eq_true.1 hag2.2 sv hsv) x hx
                  have hro : ∃ s', look m.ro id = some s' := by
                    unfold slId at hxe
                    split at hxe
                    · simp only [Option.some.injEq] at hxe
                      subst hxe
                      simp only at h1
                      split at h1
                      · rename_i s' hs'
                        exact ⟨s', hs'⟩
                      · cases h1
                    · simp only [Option.some.injEq] at hxe
                      subst hxe
                      simp only at h1
                      split at h1
                      · rename_i s' hs'
                        exact ⟨s', hs'⟩
                      · cases h1
                    · cases hxe
                  obtain ⟨s', hs'⟩ := hro
                  simp only [slOf, hs', Option.some.injEq] at hs
                  subst hs
                  exact (hM2.ro _ _ hs').2
              · exact hq.out.elim
            · exact hq.out.elim
          · exact hq.out.elim
        cases e with
        | normal => exact fin hq
        | ret => exact fin hq
        | _ => exact (StuckR.out hq).elim
      · exact h.elim
    · exact h.elim
  · exact h.elim
end SX
