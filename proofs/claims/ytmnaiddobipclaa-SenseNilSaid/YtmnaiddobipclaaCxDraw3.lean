/-
  CX: drawn regions: whatever the order, the same state.
-/
import Derived.Test.YtmnaiddobipclaaCxDraw2
namespace CX
open Go

section
variable {P : Program} {E : Env} {ih : IH} {all : List Oper} {ms dm : T Nat} {g : Nat → St} {fp : Nat → Fp} {recs : List Rc} {len : Nat}

theorem Tr.at (hT : Tr E ih all ms dm len g fp recs) (hl : len = all.length) {i : Nat} (hi : i < len) : ∃ o, all[i]? = some o ∧ StepOk E ih all ms dm g fp i o := by
  obtain ⟨o, ho⟩ : ∃ o, all[i]? = some o := ⟨all[i]'(by omega), by simp [show i < all.length by omega]⟩
  exact ⟨o, ho, hT.st i o hi ho⟩

theorem StepOk.mono {i : Nat} {o : Oper} (h : StepOk E ih all ms dm g fp i o) : (g i).nx ≤ (g (i + 1)).nx := by
  obtain ⟨_, _, _, cl, v, _, _, _, h | h | h⟩ := h
  · exact Nat.le_of_eq h.2.2.2.2.symm
  · exact Nat.le_of_eq h.2.2.2.2.2.symm
  · exact h.2.mono

theorem StepOk.low {i : Nat} {o : Oper} (h : StepOk E ih all ms dm g fp i o) : ∀ F wr, fp i = .ls F wr → ∀ x ∈ F, x < (g i).nx := by
  obtain ⟨_, _, _, cl, v, _, _, _, h | h | h⟩ := h
  · intro F wr hF x hx; rw [h.2.2.2.1] at hF; cases hF; simp at hx
  · intro F wr hF x hx; rw [h.2.2.2.2.1] at hF; cases hF; simp at hx
  · exact h.2.low

theorem Triv.not {i x : Nat} (h : Triv g fp i) : ¬ Tm g fp i x := by
  unfold Tm Wm Nw
  rw [h.1, h.2]
  rintro (h | h)
  · exact absurd h.1 (by simp)
  · omega

theorem StepOk.same {i : Nat} {o : Oper} (h : StepOk E ih all ms dm g fp i o) (x : Nat) (hx : ¬ Tm g fp i x) : (g (i + 1)).h.get x = (g i).h.get x := by
  obtain ⟨_, _, _, cl, v, _, _, _, h | h | h⟩ := h
  · rw [h.2.2.1]
  · rw [h.2.2.2.1]
  · obtain ⟨_, _, _, _, _, _, _, h⟩ := h.2.ran
    exact h x hx

def TmR (all : List Oper) (i x : Nat) : Prop := ∃ o, all[i]? = some o ∧ o.dst = some x
def RdR (ms dm : T Nat) (i x : Nat) : Prop := dm.get x = none ∨ ∃ j, dm.get x = some j ∧ (Cl ms i j ∨ Cl ms j i)

theorem StepOk.sameR {i : Nat} {o : Oper} (h : StepOk E ih all ms dm g fp i o) (ho : all[i]? = some o) (x : Nat) (hx : ¬ TmR all i x) : (g (i + 1)).regs.get x = (g i).regs.get x := by
  obtain ⟨_, _, _, cl, v, _, h, _, _⟩ := h
  rw [h]
  unfold upD
  split
  · rfl
  · rename_i d hd
    rw [T.get_up, if_neg]
    rintro rfl
    exact hx ⟨o, ho, hd⟩

theorem Cl.lt (hp : PrepOk all ms dm) {i j : Nat} (h : Cl ms i j) : j < i := by
  obtain ⟨m, h1, h2⟩ := h
  exact hp.lt i m j h1 h2

theorem nx_mono (hT : Tr E ih all ms dm len g fp recs) (hl : len = all.length) : ∀ (n a b : Nat), a + n = b → b ≤ len → (g a).nx ≤ (g b).nx
  | 0, a, b, h, _ => by rw [← h]; exact Nat.le_refl _
  | n + 1, a, b, h, hb => by
    obtain ⟨o, _, hs⟩ := hT.at hl (i := a) (by omega)
    exact Nat.le_trans hs.mono (nx_mono hT hl n (a + 1) b (by omega) hb)
theorem nx_le (hT : Tr E ih all ms dm len g fp recs) (hl : len = all.length) {a b : Nat} (h : a ≤ b) (hb : b ≤ len) : (g a).nx ≤ (g b).nx := nx_mono hT hl (b - a) a b (by omega) hb

theorem regT1 (hp : PrepOk all ms dm) {i j x : Nat} (_hij : j < i) (h1 : TmR all j x) (h2 : TmR all i x) : Cl ms i j := by
  obtain ⟨o, ho, hd⟩ := h1
  obtain ⟨o', ho', hd'⟩ := h2
  have e1 := hp.hd j o x ho hd
  have e2 := hp.hd i o' x ho' hd'
  rw [e1] at e2
  cases e2
  omega
theorem regT2 (hp : PrepOk all ms dm) {i j x : Nat} (hij : j < i) (h1 : TmR all j x) (h2 : RdR ms dm i x) : Cl ms i j := by
  obtain ⟨o, ho, hd⟩ := h1
  have e1 := hp.hd j o x ho hd
  rcases h2 with h | ⟨q, h, h'⟩
  · rw [h] at e1; cases e1
  · rw [h] at e1; cases e1
    rcases h' with h' | h'
    · exact h'
    · have := Cl.lt hp h'; omega
theorem regT3 (hp : PrepOk all ms dm) {i j x : Nat} (hij : j < i) (h1 : RdR ms dm j x) (h2 : TmR all i x) : Cl ms i j := by
  obtain ⟨o, ho, hd⟩ := h2
  have e1 := hp.hd i o x ho hd
  rcases h1 with h | ⟨q, h, h'⟩
  · rw [h] at e1; cases e1
  · rw [h] at e1; cases e1
    rcases h' with h' | h'
    · have := Cl.lt hp h'; omega
    · exact h'

theorem memT (hT : Tr E ih all ms dm len g fp recs) (hl : len = all.length) {i j x : Nat} (hij : j < i) (hi : i < len) :
    (Tm g fp j x → Tm g fp i x → Cl ms i j) ∧ (Tm g fp j x → Rm ms g fp i x → Cl ms i j) ∧ (Rm ms g fp j x → Tm g fp i x → Cl ms i j) := by
  by_cases hc : Cl ms i j
  · exact ⟨fun _ _ => hc, fun _ _ => hc, fun _ _ => hc⟩
  obtain ⟨oi, _, hsi⟩ := hT.at hl hi
  obtain ⟨oj, _, hsj⟩ := hT.at hl (i := j) (by omega)
  have hn1 : (g j).nx ≤ (g (j + 1)).nx := hsj.mono
  have hn2 : (g (j + 1)).nx ≤ (g i).nx := nx_le hT hl (by omega) (by omega)
  have lowj := hsj.low
  have tRm : ∀ k, Triv g fp k → ¬ Rm ms g fp k x := by
    intro k hk h
    unfold Rm at h
    rw [hk.1] at h
    simp at h
  rcases hT.pr j i hij hi with h | h | h | h
  · exact absurd h hc
  · exact ⟨fun _ h2 => absurd h2 h.not, fun _ h2 => absurd h2 (tRm i h), fun _ h2 => absurd h2 h.not⟩
  · exact ⟨fun h2 => absurd h2 h.not, fun h2 => absurd h2 h.not, fun h2 => absurd h2 (tRm j h)⟩
  · unfold pairOk at h
    cases hfi : fp i with
    | all => rw [hfi] at h; cases h
    | q =>
      rw [hfi] at h
      cases hfj : fp j with
      | all => rw [hfj] at h; cases h
      | q =>
        unfold Tm Rm Wm
        rw [hfi, hfj]
        simp only [Nw, false_or]
        refine ⟨fun h1 h2 => by omega, fun h1 h2 => absurd h1 ?_, fun h1 h2 => by omega⟩
        have := h2.2 j hij hc
        simpa [Nw] using this
      | ls F wr =>
        rw [hfj] at h
        have hw : wr = true → F = [] := by
          intro e; subst e; exact isNil_ok h
        unfold Tm Rm Wm
        rw [hfi, hfj]
        simp only [Nw, false_or]
        refine ⟨fun h1 h2 => ?_, fun h1 h2 => ?_, fun h1 h2 => ?_⟩
        · rcases h1 with h1 | h1
          · have := lowj F wr hfj x h1.2.1; omega
          · omega
        · rcases h1 with h1 | h1
          · rw [hw h1.1] at h1; simp at h1
          · have := h2.2 j hij hc
            exact absurd h1 (by simpa [Nw] using this)
        · have := lowj F wr hfj x h1; omega
    | ls F wr =>
      rw [hfi] at h
      cases hfj : fp j with
      | all => rw [hfj] at h; cases h
      | q =>
        rw [hfj] at h
        have hw : wr = true → F = [] := by
          intro e; subst e; exact isNil_ok h
        have ho : x ∈ F → ¬ ((g j).nx ≤ x ∧ x < (g (j + 1)).nx) := by
          intro hx
          cases wr with
          | true => rw [hw rfl] at hx; simp at hx
          | false => exact outs_ok F h x hx
        unfold Tm Rm Wm
        rw [hfi, hfj]
        simp only [Nw, false_or]
        refine ⟨fun h1 h2 => ?_, fun h1 h2 => absurd h1 (ho h2), fun h1 h2 => ?_⟩
        · rcases h2 with h2 | h2
          · exact absurd h1 (ho h2.2.1)
          · omega
        · rcases h2 with h2 | h2
          · rw [hw h2.1] at h2; simp at h2
          · omega
      | ls F' wr' =>
        rw [hfj] at h
        simp only at h
        split at h
        · cases h
        · rename_i hout
          have ho := outs_ok F hout x
          have hd : (wr = true ∨ wr' = true) → x ∈ F → x ∈ F' → False := by
            intro hw h1 h2
            cases wr <;> cases wr' <;> first | (simp at hw; done) | exact disj_ok F F' h x h1 h2
          unfold Tm Rm Wm
          rw [hfi, hfj]
          simp only [Nw]
          refine ⟨fun h1 h2 => ?_, fun h1 h2 => ?_, fun h1 h2 => ?_⟩
          · rcases h2 with h2 | h2
            · rcases h1 with h1 | h1
              · exact (hd (.inl h2.1) h2.2.1 h1.2.1).elim
              · exact absurd h1 (ho h2.2.1)
            · rcases h1 with h1 | h1
              · have := lowj F' wr' hfj x h1.2.1; omega
              · omega
          · rcases h1 with h1 | h1
            · exact (hd (.inr h1.1) h2 h1.2.1).elim
            · exact absurd h1 (ho h2)
          · rcases h2 with h2 | h2
            · exact (hd (.inl h2.1) h2.2.1 h1).elim
            · have := lowj F' wr' hfj x h1; omega

structure DInv (ρ0 : Nm) (w0 : World) (all : List Oper) (len : Nat) (g : Nat → St) (fp : Nat → Fp) (D : Nat → Prop) (ρ : Nm) (xh : Nat → Option O) (xr : Nat → Option V) (a : Act) (w : World) : Prop where
  mem : ∀ x, ∃ m, m ≤ len ∧ xh x = (g m).h.get x ∧ (∀ t, t < len → Tm g fp t x → (t < m ↔ D t)) ∧ (m = 0 ∨ ∃ t, m = t + 1 ∧ t < len ∧ Tm g fp t x) ∧ ∀ o, xh x = some o → x < (g m).nx ∧ ObjOk ρ (g m).nx w x o
  reg : ∀ x, ∃ m, m ≤ len ∧ xr x = (g m).regs.get x ∧ (∀ t, t < len → TmR all t x → (t < m ↔ D t)) ∧ (m = 0 ∨ ∃ t, m = t + 1 ∧ t < len ∧ TmR all t x) ∧ ∀ v, xr x = some v → ∃ u, a.tmps[x]? = some u ∧ Rv ρ (g m).nx v u
  sep : ∀ x o x' o', xh x = some o → xh x' = some o' → x ≠ x' → ∀ L L', ρ x = some L → ρ x' = some L' → L.b ≠ L'.b
  blk : ∀ x L, ρ x = some L → L.b < w.heap.size
  dom : ∀ x L, ρ x = some L → x < (g 0).nx ∨ ∃ t, t < len ∧ D t ∧ Nw g t x
  size : a.tmps.size = (g 0).nt
  df : RvD ρ (g 0).nx (g 0).df a.defers
  ag : agree (g 0).nx ρ0 ρ
  fr : Fr (Own ρ0 (g 0).h.get (g 0).bar) w0 (Own ρ xh (g 0).bar) w
  cb : ∀ j, j < len → fp j = .all → D j → ∀ x o, (g (j + 1)).h.get x = some o → x < (g (j + 1)).nx

variable {ρ0 ρ : Nm} {w0 w : World} {D : Nat → Prop} {xh : Nat → Option O} {xr : Nat → Option V} {a : Act}

/-- What is looked at is as it was in the text's order. -/
theorem DInv.memAt (hT : Tr E ih all ms dm len g fp recs) (hl : len = all.length) (hI : DInv ρ0 w0 all len g fp D ρ xh xr a w) (hD : ∀ a b, D a → Cl ms a b → D b) {i : Nat} (hi : ¬ D i) (hil : i < len) (hcl : ∀ b, Cl ms i b → D b) {x : Nat} (hR : Rm ms g fp i x) :
    xh x = (g i).h.get x ∧ ∃ m, m ≤ i ∧ ∀ o, xh x = some o → x < (g m).nx ∧ ObjOk ρ (g m).nx w x o := by
  obtain ⟨m, h1, h2, h3, h4, h5⟩ := hI.mem x
  have hA := claimA (fun j i hj hi => (memT hT hl hj hi).2.1) (fun j i hj hi => (memT hT hl hj hi).2.2) hD hi hil hcl hR h3
  have same : ∀ t, t < len → ¬ Tm g fp t x → (g (t + 1)).h.get x = (g t).h.get x := fun t ht hn => by
    obtain ⟨o, _, hs⟩ := hT.at hl ht
    exact hs.same x hn
  have e := sameRange' (g := fun k => (g k).h.get x) same h1 (Nat.le_of_lt hil) hA
  refine ⟨h2.trans e, m, ?_, h5⟩
  rcases h4 with rfl | ⟨t, rfl, ht, htx⟩
  · omega
  · have := (hA t ht htx).1 (Nat.lt_succ_self t); omega

theorem DInv.regAt (hp : PrepOk all ms dm) (hT : Tr E ih all ms dm len g fp recs) (hl : len = all.length) (hI : DInv ρ0 w0 all len g fp D ρ xh xr a w) (hD : ∀ a b, D a → Cl ms a b → D b) {i : Nat} (hi : ¬ D i) (hil : i < len) (hcl : ∀ b, Cl ms i b → D b) {x : Nat} (hR : RdR ms dm i x) {v : V}
    (hv : (g i).regs.get x = some v) : ∃ m u, m ≤ i ∧ a.tmps[x]? = some u ∧ Rv ρ (g m).nx v u := by
  obtain ⟨m, h1, h2, h3, h4, h5⟩ := hI.reg x
  have hA := claimA (tch := TmR all) (fun j i hj _ => regT2 hp hj) (fun j i hj _ => regT3 hp hj) hD hi hil hcl hR h3
  have same : ∀ t, t < len → ¬ TmR all t x → (g (t + 1)).regs.get x = (g t).regs.get x := fun t ht hn => by
    obtain ⟨o, ho, hs⟩ := hT.at hl ht
    exact hs.sameR ho x hn
  have e := sameRange' (g := fun k => (g k).regs.get x) same h1 (Nat.le_of_lt hil) hA
  obtain ⟨u, h6, h7⟩ := h5 v (by rw [h2, e, hv])
  refine ⟨m, u, ?_, h6, h7⟩
  rcases h4 with rfl | ⟨t, rfl, ht, htx⟩
  · omega
  · have := (hA t ht htx).1 (Nat.lt_succ_self t); omega

theorem getD_ok {regs : T V} {i cl t : Nat} (hcl : ms.get i = some cl) {v : V} (h : getD regs ms dm i cl t = some v) : regs.get t = some v ∧ RdR ms dm i t := by
  unfold getD at h
  split at h
  · rename_i hn; exact ⟨h, .inl hn⟩
  · rename_i j hj
    split at h
    · rename_i hb
      exact ⟨h, .inr ⟨j, hj, .inl ⟨cl, hcl, by rw [← bit_eq]; exact hb⟩⟩⟩
    · split at h
      · rename_i m hm
        split at h
        · rename_i hb
          exact ⟨h, .inr ⟨j, hj, .inr ⟨m, hm, by rw [← bit_eq]; exact hb⟩⟩⟩
        · cases h
      · cases h

/-- The slots behind an operation. -/
theorem DInv.regStep (hp : PrepOk all ms dm) (hI : DInv ρ0 w0 all len g fp D ρ xh xr a w) (hD : ∀ a b, D a → Cl ms a b → D b) {i : Nat} (hi : ¬ D i) (hil : i < len) (hcl : ∀ b, Cl ms i b → D b) {o : Oper} (ho : all[i]? = some o)
    {v : V} {u : Value} {ρ' : Nm} (hr : ∀ x L, ρ x = some L → ρ' x = some L) (hv : Rv ρ' (g (i + 1)).nx v u) (hg : (g (i + 1)).regs = upD (g i).regs o.dst v) (hd : ∀ d, o.dst = some d → d < (g 0).nt) :
    ∀ x, ∃ m, m ≤ len ∧ (if o.dst = some x then some v else xr x) = (g m).regs.get x ∧ (∀ t, t < len → TmR all t x → (t < m ↔ (D t ∨ t = i))) ∧ (m = 0 ∨ ∃ t, m = t + 1 ∧ t < len ∧ TmR all t x) ∧
      ∀ v', (if o.dst = some x then some v else xr x) = some v' → ∃ u', (a.put o.dst u).tmps[x]? = some u' ∧ Rv ρ' (g m).nx v' u' := by
  intro x
  by_cases hx : o.dst = some x
  · have ht : TmR all i x := ⟨o, ho, hx⟩
    refine ⟨i + 1, by omega, ?_, claimB (fun j i hj _ => regT1 hp hj) hD hi hil hcl ht, .inr ⟨i, rfl, hil, ht⟩, fun v' hv' => ?_⟩
    · rw [if_pos hx, hg, hx, upD, T.get_up, if_pos rfl]
    · rw [if_pos hx] at hv'
      cases hv'
      refine ⟨u, ?_, hv⟩
      rw [hx]
      simp [Act.put, hI.size, hd x hx]
  · obtain ⟨m, h1, h2, h3, h4, h5⟩ := hI.reg x
    have hn : ¬ TmR all i x := fun ⟨o', ho', hd'⟩ => by rw [ho] at ho'; cases ho'; exact hx hd'
    refine ⟨m, h1, by rw [if_neg hx]; exact h2, fun t ht htx => ?_, h4, fun v' hv' => ?_⟩
    · rw [h3 t ht htx]
      exact ⟨.inl, fun h => h.resolve_right (fun e => by subst e; exact hn htx)⟩
    · rw [if_neg hx] at hv'
      obtain ⟨u', h6, h7⟩ := h5 v' hv'
      refine ⟨u', ?_, Rv.ext (Nat.le_refl _) (fun i L _ h => hr i L h) _ _ h7⟩
      cases hdst : o.dst with
      | none => exact h6
      | some d =>
        simp only [Act.put]
        rw [Array.getElem?_setIfInBounds_ne (fun e => hx (by rw [hdst, e]))]
        exact h6
end
end CX
