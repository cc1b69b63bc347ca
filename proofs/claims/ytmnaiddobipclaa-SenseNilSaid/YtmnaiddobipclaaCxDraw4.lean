/-
  CX: drawn regions: one operation; the walk.
-/
import Derived.Test.YtmnaiddobipclaaCxDraw3
namespace CX
open Go

section
variable {P : Program} {E : Env} {ih : IH} {all : List Oper} {ms dm : T Nat} {g : Nat → St} {fp : Nat → Fp} {recs : List Rc} {len : Nat}
variable {ρ0 ρ : Nm} {w0 w : World} {D : Nat → Prop} {xh : Nat → Option O} {xr : Nat → Option V} {a : Act}

theorem const_of (hT : Tr E ih all ms dm len g fp recs) (hl : len = all.length) : ∀ i, i ≤ len → (g i).bar = (g 0).bar ∧ (g i).nt = (g 0).nt ∧ (g i).df = (g 0).df
  | 0, _ => ⟨rfl, rfl, rfl⟩
  | i + 1, h => by
    obtain ⟨o, _, hs⟩ := hT.at hl (i := i) (by omega)
    obtain ⟨h1, h2, h3⟩ := const_of hT hl i (by omega)
    exact ⟨hs.bar.trans h1, hs.nt.trans h2, hs.df.trans h3⟩

theorem DInv.bound (hT : Tr E ih all ms dm len g fp recs) (hl : len = all.length) (hI : DInv ρ0 w0 all len g fp D ρ xh xr a w) (h0 : ∀ x o, (g 0).h.get x = some o → x < (g 0).nx) :
    ∀ i, i ≤ len → (∀ j, j < i → fp j = .all → D j) → ∀ x o, (g i).h.get x = some o → x < (g i).nx
  | 0, _, _, x, o, hx => h0 x o hx
  | i + 1, hi, hj, x, o, hx => by
    obtain ⟨oo, _, hs⟩ := hT.at hl (i := i) (by omega)
    by_cases ht : Tm g fp i x
    · have hmono := hs.mono
      rcases ht with ht | ht
      · unfold Wm at ht
        split at ht
        · rename_i hf
          exact hI.cb i (by omega) hf (hj i (by omega) hf) x o hx
        · exact ht.elim
        · rename_i F wr hf
          have := hs.low F wr hf x ht.2.1
          omega
      · exact ht.2
    · rw [hs.same x ht] at hx
      have := DInv.bound hT hl hI h0 i (by omega) (fun j hji => hj j (by omega)) x o hx
      have := hs.mono
      omega

theorem wantB_ok (hp : PrepOk all ms dm) (hT : Tr E ih all ms dm len g fp recs) (hl : len = all.length) (hI : DInv ρ0 w0 all len g fp D ρ xh xr a w) (hD : ∀ a b, D a → Cl ms a b → D b) {i : Nat} (hi : ¬ D i) (hil : i < len) (hcl : ∀ b, Cl ms i b → D b)
    {ops : Array Oper} (hall : all = ops.toList) {o : Oper} {cl : Nat} (hc : ms.get i = some cl) {b : Bool} (h : wantB (g i).regs ms dm i cl all o = some b) : Region.wanted o (yielded ops a.tmps) = b := by
  subst hall
  unfold wantB at h
  split at h
  · rename_i hg
    simp only [Option.some.injEq] at h
    simp [Region.wanted, hg, h]
  · rename_i gd want hg
    split at h
    · rename_i og hog
      split at h
      · rename_i d hd
        rw [nth_eq, Array.getElem?_toList] at hog
        have hd' : (ops[gd]?).bind (·.dst) = some d := by simp [hog, hd]
        split at h
        · rename_i x hx
          obtain ⟨h1, h2⟩ := getD_ok hc hx
          obtain ⟨m, u, _, h3, h4⟩ := hI.regAt hp hT hl hD hi hil hcl h2 h1
          simp only [Rv] at h4
          subst h4
          have hw : Region.wanted o (yielded ops a.tmps) = (x == want) := by
            simp only [Region.wanted, hg, yielded, hd', Option.bind_some, h3]
            cases x <;> cases want <;> rfl
          rw [hw]
          split at h
          · simp only [Option.some.injEq] at h; subst h; rfl
          · simp only [Option.some.injEq] at h; subst h; rfl
          · rename_i h5 h6
            simp only [Option.some.injEq] at h
            subst h
            cases x <;> cases want <;> first | rfl | exact (h5 rfl rfl).elim | exact (h6 rfl rfl).elim
        · rename_i hx
          obtain ⟨h1, h2⟩ := getD_ok hc hx
          obtain ⟨m, u, _, h3, h4⟩ := hI.regAt hp hT hl hD hi hil hcl h2 h1
          simp only [Rv] at h4
          obtain ⟨y, hy, rfl⟩ := h4
          simp only [Option.some.injEq] at h
          subst h
          simp only [Region.wanted, hg, yielded, hd', Option.bind_some, h3]
          cases want <;> rfl
        · cases h
      · cases h
    · cases h

theorem evD_ok (hp : PrepOk all ms dm) (hT : Tr E ih all ms dm len g fp recs) (hl : len = all.length) (hI : DInv ρ0 w0 all len g fp D ρ xh xr a w) (hD : ∀ a b, D a → Cl ms a b → D b) {i : Nat} (hi : ¬ D i) (hil : i < len) (hcl : ∀ b, Cl ms i b → D b)
    {cl : Nat} (hc : ms.get i = some cl) (x : Operand) (v : V) (h : evD (g i).regs ms dm i cl x = some v) : Rv (fun k => if k < (g i).nx then ρ k else none) (g i).nx v (a.eval x) := by
  cases x with
  | tmp t =>
    obtain ⟨h1, h2⟩ := getD_ok hc h
    obtain ⟨m, u, hm, h3, h4⟩ := hI.regAt hp hT hl hD hi hil hcl h2 h1
    have : a.eval (.tmp t) = u := by simp [Act.eval, Array.getD_eq_getD_getElem?, h3]
    rw [this]
    have hle := nx_le hT hl hm (Nat.le_of_lt hil)
    refine Rv.ext hle (fun k L hk hL => ?_) v u h4
    rw [if_pos (by omega)]; exact hL
  | const c => exact conv_ok h
  | func f =>
    simp only [evD, Option.some.injEq] at h
    subst h
    simp only [Rv]
    exact ⟨[], [], by simp [RvL], by simp [RvL], rfl⟩
  | «global» g => cases h

theorem put_tmps {dst : Option Nat} {u : Value} {n : Nat} (h : a.tmps.size = n) : (a.put dst u).tmps.size = n ∧ (a.put dst u).defers = a.defers := by
  cases dst with
  | none => exact ⟨h, rfl⟩
  | some d => exact ⟨by simp [Act.put, h], rfl⟩

/-- An operation that leaves memory alone. -/
theorem DInv.quiet (hp : PrepOk all ms dm) (hI : DInv ρ0 w0 all len g fp D ρ xh xr a w) (hD : ∀ a b, D a → Cl ms a b → D b) {i : Nat} (hi : ¬ D i) (hil : i < len) (hcl : ∀ b, Cl ms i b → D b)
    {o : Oper} (ho : all[i]? = some o) {v : V} {u : Value} (hv : Rv ρ (g (i + 1)).nx v u) (hg : (g (i + 1)).regs = upD (g i).regs o.dst v) (hd : ∀ d, o.dst = some d → d < (g 0).nt) (ht : Triv g fp i) :
    DInv ρ0 w0 all len g fp (fun t => D t ∨ t = i) ρ xh (fun x => if o.dst = some x then some v else xr x) (a.put o.dst u) w := by
  obtain ⟨hs1, hs2⟩ := put_tmps (dst := o.dst) (u := u) hI.size
  refine ⟨fun x => ?_, hI.regStep hp hD hi hil hcl ho (fun _ _ h => h) hv hg hd, hI.sep, hI.blk, fun x L hx => (hI.dom x L hx).imp id fun ⟨t, h1, h2, h3⟩ => ⟨t, h1, .inl h2, h3⟩, hs1, by rw [hs2]; exact hI.df, hI.ag, hI.fr, fun j hj hf hdj => ?_⟩
  · obtain ⟨m, h1, h2, h3, h4, h5⟩ := hI.mem x
    refine ⟨m, h1, h2, fun t htl htx => ?_, h4, h5⟩
    rw [h3 t htl htx]
    exact ⟨.inl, fun h => h.resolve_right fun e => by subst e; exact ht.not htx⟩
  · rcases hdj with hdj | rfl
    · exact hI.cb j hj hf hdj
    · rw [ht.1] at hf; cases hf

theorem barOf_facts {bar nx : Nat} {f : Fp} (h : bar ≤ nx) : bar ≤ barOf f bar nx ∧ barOf f bar nx ≤ nx := by
  cases f with
  | all => exact ⟨Nat.le_refl _, h⟩
  | q => exact ⟨h, Nat.le_refl _⟩
  | ls F wr => cases wr with
    | true => exact ⟨Nat.le_refl _, h⟩
    | false => exact ⟨h, Nat.le_refl _⟩

open Classical in
/-- **An operation that has to do with memory.** -/
theorem DInv.memo (hp : PrepOk all ms dm) (hT : Tr E ih all ms dm len g fp recs) (hl : len = all.length) (hI : DInv ρ0 w0 all len g fp D ρ xh xr a w) (hD : ∀ a b, D a → Cl ms a b → D b) {i : Nat} (hi : ¬ D i) (hil : i < len) (hcl : ∀ b, Cl ms i b → D b)
    {o : Oper} (ho : all[i]? = some o) {v : V} {u : Value} {hv h' : T O} {ρ' : Nm} {w' : World} (hview : ∀ x ob, hv.get x = some ob → xh x = some ob ∧ x < (g i).nx ∧ Rm ms g fp i x) (hm1 : ∀ x, Tm g fp i x → (g (i + 1)).h.get x = h'.get x)
    (hbar : (g 0).bar ≤ (g i).nx) (hmono : (g i).nx ≤ (g (i + 1)).nx) (hg : (g (i + 1)).regs = upD (g i).regs o.dst v) (hd : ∀ d, o.dst = some d → d < (g 0).nt) (hfb : (g i).bar = (g 0).bar)
    (hvu : Rv ρ' (g (i + 1)).nx v u) (hS' : HSat ρ' h'.get (g (i + 1)).nx w') (hag : agree (g i).nx (fun k => if k < (g i).nx then ρ k else none) ρ')
    (hfr : Fr (Own (fun k => if k < (g i).nx then ρ k else none) hv.get (barOf (fp i) (g 0).bar (g i).nx)) w (Own ρ' h'.get (barOf (fp i) (g 0).bar (g i).nx)) w') :
    ∃ ρ2 xh2 xr2, DInv ρ0 w0 all len g fp (fun t => D t ∨ t = i) ρ2 xh2 xr2 (a.put o.dst u) w' := by
  obtain ⟨hb1, hb2⟩ := barOf_facts (f := fp i) hbar
  have hi1 : i + 1 ≤ len := hil
  have h0i : (g 0).nx ≤ (g i).nx := nx_le hT hl (Nat.zero_le _) (Nat.le_of_lt hil)
  obtain ⟨ρ2, hρ2⟩ : ∃ ρ2 : Nm, ∀ x, ρ2 x = if x < (g i).nx then ρ x else if x < (g (i + 1)).nx then ρ' x else ρ x := ⟨_, fun _ => rfl⟩
  have hr : ∀ x L, ρ x = some L → ρ2 x = some L := by
    intro x L hx
    rw [hρ2]
    split
    · exact hx
    · split
      · exfalso
        rcases hI.dom x L hx with h | ⟨t, h1, h2, h3, h4⟩
        · omega
        · rcases Nat.lt_trichotomy t i with h | h | h
          · have := nx_le hT hl (a := t + 1) (b := i) (by omega) (by omega); omega
          · subst h; exact hi h2
          · have := nx_le hT hl (a := i + 1) (b := t) (by omega) (by omega); omega
      · exact hx
  have he : ∀ x, x < (g (i + 1)).nx → ρ2 x = ρ' x := by
    intro x hx
    rw [hρ2, if_pos hx]
    split
    · rename_i h
      have := hag x h
      simp only [if_pos h] at this
      exact this.symm
    · rfl
  have wm : ∀ x, barOf (fp i) (g 0).bar (g i).nx ≤ x → x < (g i).nx → Rm ms g fp i x → Tm g fp i x := by
    intro x hx hlt hR
    refine .inl ?_
    unfold Wm
    unfold Rm at hR
    rw [hfb]
    cases hf : fp i with
    | all => trivial
    | q => rw [hf] at hx; simp only [barOf] at hx; omega
    | ls F wr =>
      rw [hf] at hx hR
      cases wr with
      | true => simp only [barOf] at hx; exact ⟨rfl, hR, hx⟩
      | false => simp only [barOf] at hx; omega
  have tb : ∀ x, Tm g fp i x → fp i ≠ .all → barOf (fp i) (g 0).bar (g i).nx ≤ x := by
    intro x hx hne
    unfold Tm Wm at hx
    rw [hfb] at hx
    cases hf : fp i with
    | all => exact absurd hf hne
    | q =>
      rw [hf] at hx
      rcases hx with hx | hx
      · exact hx.elim
      · exact hx.1
    | ls F wr =>
      rw [hf] at hx
      rcases hx with hx | hx
      · obtain ⟨rfl, _, h3⟩ := hx
        exact h3
      · have := hx.1
        cases wr with
        | true => simp only [barOf]; omega
        | false => exact this
  have notOwn : ∀ x ob L, ¬ Tm g fp i x → xh x = some ob → ρ x = some L → ¬ Own (fun k => if k < (g i).nx then ρ k else none) hv.get (barOf (fp i) (g 0).bar (g i).nx) L.b := by
    rintro x ob L hnt hx hL ⟨id, o', L', h1, h2, h3, h4⟩
    obtain ⟨k1, k2, k3⟩ := hview id o' h2
    simp only [if_pos k2] at h3
    have hT' := wm id h1 k2 k3
    exact hI.sep id o' x ob k1 hx (fun e => by subst e; exact hnt hT') L' L h3 hL h4
  have keepB : ∀ x ob L, ¬ Tm g fp i x → xh x = some ob → ρ x = some L → w'.heap[L.b]? = w.heap[L.b]? := fun x ob L h1 h2 h3 => hfr.keep _ (hI.blk x L h3) (notOwn x ob L h1 h2 h3)
  have locOf : ∀ x ob L, xh x = some ob → ρ2 x = some L → ρ x = some L := by
    intro x ob L hx hL
    obtain ⟨m, _, _, _, _, h5⟩ := hI.mem x
    obtain ⟨L0, hL0⟩ := (h5 ob hx).2.loc
    have := hr x L0 hL0
    rw [hL] at this
    cases this
    exact hL0
  have newLt : ∀ x ob, h'.get x = some ob → x < (g (i + 1)).nx := fun x ob hx => (hS'.objs x ob hx).1
  have ownUp : ∀ b, Own (fun k => if k < (g i).nx then ρ k else none) hv.get (barOf (fp i) (g 0).bar (g i).nx) b → Own ρ xh (g 0).bar b := by
    rintro b ⟨id, o', L', h1, h2, h3, h4⟩
    obtain ⟨k1, k2, k3⟩ := hview id o' h2
    simp only [if_pos k2] at h3
    exact ⟨id, o', L', by omega, k1, h3, h4⟩
  have sepMix : ∀ x ob x' ob' L L', Tm g fp i x → ¬ Tm g fp i x' → h'.get x = some ob → xh x' = some ob' → ρ2 x = some L → ρ2 x' = some L' → L.b ≠ L'.b := by
    intro x ob x' ob' L L' ht hnt hx hx' hL hL' e
    have hne : fp i ≠ .all := fun hf => hnt (by refine .inl ?_; unfold Wm; rw [hf]; trivial)
    rw [he x (newLt x ob hx)] at hL
    have hL2 := locOf x' ob' L' hx' hL'
    rcases hfr.own L.b ⟨x, ob, L, tb x ht hne, hx, hL, rfl⟩ with h | h
    · rw [e] at h; exact notOwn x' ob' L' hnt hx' hL2 h
    · have := hI.blk x' L' hL2; omega
  obtain ⟨hs1, hs2⟩ := put_tmps (dst := o.dst) (u := u) hI.size
  refine ⟨ρ2, fun x => if Tm g fp i x then h'.get x else xh x, fun x => if o.dst = some x then some v else xr x, fun x => ?_, hI.regStep hp hD hi hil hcl ho hr ?_ hg hd, fun x ob x' ob' hx hx' hne L L' hL hL' => ?_, fun x L hx => ?_, fun x L hx => ?_, hs1, ?_, ?_, ?_, fun j hj hf hdj => ?_⟩
  · by_cases ht : Tm g fp i x
    · refine ⟨i + 1, hi1, ?_, claimB (fun j i hj hi => (memT hT hl hj hi).1) hD hi hil hcl ht, .inr ⟨i, rfl, hil, ht⟩, fun ob hob => ?_⟩
      · rw [if_pos ht, hm1 x ht]
      · rw [if_pos ht] at hob
        obtain ⟨k1, k2⟩ := hS'.objs x ob hob
        exact ⟨k1, ObjOk.ext k1 (Nat.le_refl _) (fun k L hk hL => by rw [he k hk]; exact hL) (fun _ _ => rfl) ob k2⟩
    · obtain ⟨m, h1, h2, h3, h4, h5⟩ := hI.mem x
      refine ⟨m, h1, by rw [if_neg ht]; exact h2, fun t htl htx => ?_, h4, fun ob hob => ?_⟩
      · rw [h3 t htl htx]
        exact ⟨.inl, fun h => h.resolve_right fun e => by subst e; exact ht htx⟩
      · rw [if_neg ht] at hob
        obtain ⟨k1, k2⟩ := h5 ob hob
        exact ⟨k1, ObjOk.ext k1 (Nat.le_refl _) (fun k L _ hL => hr k L hL) (fun L hL => keepB x ob L ht hob hL) ob k2⟩
  · exact Rv.ext (Nat.le_refl _) (fun k L hk hL => by rw [he k hk]; exact hL) _ _ hvu
  · split at hx
    · rename_i ht
      split at hx'
      · rw [he x (newLt x ob hx)] at hL
        rw [he x' (newLt x' ob' hx')] at hL'
        exact hS'.sep x ob x' ob' hx hx' hne L L' hL hL'
      · rename_i ht'
        exact sepMix x ob x' ob' L L' ht ht' hx hx' hL hL'
    · rename_i ht
      split at hx'
      · rename_i ht'
        exact fun e => sepMix x' ob' x ob L' L ht' ht hx' hx hL' hL e.symm
      · exact hI.sep x ob x' ob' hx hx' hne L L' (locOf x ob L hx hL) (locOf x' ob' L' hx' hL')
  · have hsz := hfr.size
    rw [hρ2] at hx
    split at hx
    · have := hI.blk x L hx; omega
    · split at hx
      · exact hS'.blk x L hx
      · have := hI.blk x L hx; omega
  · rw [hρ2] at hx
    split at hx
    · exact (hI.dom x L hx).imp id fun ⟨t, h1, h2, h3⟩ => ⟨t, h1, .inl h2, h3⟩
    · rename_i hx1
      split at hx
      · rename_i hx2
        exact .inr ⟨i, hil, .inr rfl, Nat.le_of_not_lt hx1, hx2⟩
      · exact (hI.dom x L hx).imp id fun ⟨t, h1, h2, h3⟩ => ⟨t, h1, .inl h2, h3⟩
  · rw [hs2]; exact hI.df.ext (Nat.le_refl _) (fun k L _ hL => hr k L hL)
  · intro x hx
    rw [hρ2, if_pos (by omega)]
    exact hI.ag x hx
  · refine hI.fr.trans ⟨hfr.os, hfr.tape, hfr.output, hfr.size, fun b hb hno => hfr.keep b hb fun h => hno (ownUp b h), ?_⟩
    rintro b ⟨x, ob, L, hbx, hx, hL, rfl⟩
    simp only at hx
    split at hx
    · rename_i ht
      rw [he x (newLt x ob hx)] at hL
      have hbv : barOf (fp i) (g 0).bar (g i).nx ≤ x := by
        by_cases hf : fp i = .all
        · rw [hf]; exact hbx
        · exact tb x ht hf
      exact (hfr.own L.b ⟨x, ob, L, hbv, hx, hL, rfl⟩).imp (ownUp _) id
    · exact .inl ⟨x, ob, L, hbx, hx, locOf x ob L hx hL, rfl⟩
  · rcases hdj with hdj | rfl
    · exact hI.cb j hj hf hdj
    · intro x ob hx
      rw [hm1 x (by refine .inl ?_; unfold Wm; rw [hf]; trivial)] at hx
      exact newLt x ob hx
end
end CX
