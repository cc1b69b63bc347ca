/-
  CX: drawn regions: what one run of the executor says of each operation.
-/
import Derived.Test.YtmnaiddobipclaaCxDraw
namespace CX
open Go

def Wm (bar : Nat) (fp : Fp) (x : Nat) : Prop :=
  match fp with
  | .all => True
  | .q => False
  | .ls F wr => wr = true ∧ x ∈ F ∧ bar ≤ x
def Nw (g : Nat → St) (i x : Nat) : Prop := (g i).nx ≤ x ∧ x < (g (i + 1)).nx
def Tm (g : Nat → St) (fp : Nat → Fp) (i x : Nat) : Prop := Wm (g i).bar (fp i) x ∨ Nw g i x
def Cl (ms : T Nat) (i j : Nat) : Prop := ∃ m, ms.get i = some m ∧ m.testBit j = true
def Rm (ms : T Nat) (g : Nat → St) (fp : Nat → Fp) (i x : Nat) : Prop :=
  match fp i with
  | .all => True
  | .q => x < (g i).nx ∧ ∀ j, j < i → ¬ Cl ms i j → ¬ Nw g j x
  | .ls F _ => x ∈ F
def Triv (g : Nat → St) (fp : Nat → Fp) (i : Nat) : Prop := fp i = .ls [] false ∧ (g (i + 1)).nx = (g i).nx

def barOf (fp : Fp) (bar nx : Nat) : Nat :=
  match fp with
  | .all => bar
  | .q => nx
  | .ls _ wr => match wr with
    | true => bar
    | false => nx

structure MemStep (E : Env) (ih : IH) (ms dm : T Nat) (g : Nat → St) (fp : Nat → Fp) (i cl : Nat) (o : Oper) (v : V) : Prop where
  ran : ∃ hv h' r0, opA E ih (barOf (fp i) (g i).bar (g i).nx) (evD (g i).regs ms dm i cl) hv (g i).nx o.op retV = some r0 ∧ (∀ v' g' n', retV v' g' n' = some r0 → v' = v ∧ g' = h' ∧ n' = (g (i + 1)).nx) ∧
    (∀ x ob, hv.get x = some ob → (g i).h.get x = some ob ∧ ((fp i = .q → x < (g i).nx) → Rm ms g fp i x)) ∧
    (∀ x, Tm g fp i x → (g (i + 1)).h.get x = h'.get x) ∧ (∀ x, ¬ Tm g fp i x → (g (i + 1)).h.get x = (g i).h.get x)
  bar : (g i).bar ≤ (g i).nx
  mono : (g i).nx ≤ (g (i + 1)).nx
  low : ∀ F wr, fp i = .ls F wr → ∀ x ∈ F, x < (g i).nx

structure StepOk (E : Env) (ih : IH) (all : List Oper) (ms dm : T Nat) (g : Nat → St) (fp : Nat → Fp) (i : Nat) (o : Oper) : Prop where
  nt : (g (i + 1)).nt = (g i).nt
  bar : (g (i + 1)).bar = (g i).bar
  df : (g (i + 1)).df = (g i).df
  ex : ∃ cl v, ms.get i = some cl ∧ (g (i + 1)).regs = upD (g i).regs o.dst v ∧ (∀ d, o.dst = some d → d < (g i).nt) ∧
    ((wantB (g i).regs ms dm i cl all o = some false ∧ v = .tup [] ∧ (g (i + 1)).h = (g i).h ∧ Triv g fp i) ∨
     (wantB (g i).regs ms dm i cl all o = some true ∧ clsOf E o.op = 0 ∧ (∃ r0, opP E (evD (g i).regs ms dm i cl) o.op (fun v => retV v .e 0) = some r0 ∧ ∀ v', retV v' .e 0 = some r0 → v' = v) ∧
        (g (i + 1)).h = (g i).h ∧ Triv g fp i) ∨
     (wantB (g i).regs ms dm i cl all o = some true ∧ MemStep E ih ms dm g fp i cl o v))

section
variable {E : Env} {ih : IH} {all : List Oper} {ms dm : T Nat} {g g' : Nat → St} {fp fp' : Nat → Fp}

theorem Nw.congr {i : Nat} (h : g' i = g i) (h1 : g' (i + 1) = g (i + 1)) (x : Nat) : Nw g' i x ↔ Nw g i x := by unfold Nw; rw [h, h1]
theorem Tm.congr {i : Nat} (h : g' i = g i) (h1 : g' (i + 1) = g (i + 1)) (hf : fp' i = fp i) (x : Nat) : Tm g' fp' i x ↔ Tm g fp i x := by unfold Tm; rw [Nw.congr h h1, h, hf]
theorem Triv.congr {i : Nat} (h : g' i = g i) (h1 : g' (i + 1) = g (i + 1)) (hf : fp' i = fp i) : Triv g' fp' i ↔ Triv g fp i := by unfold Triv; rw [h, h1, hf]
theorem Rm.congr {i : Nat} (h : ∀ k, k ≤ i → g' k = g k) (hf : fp' i = fp i) (x : Nat) : Rm ms g' fp' i x ↔ Rm ms g fp i x := by
  unfold Rm
  rw [hf, h i (Nat.le_refl _)]
  split
  · exact Iff.rfl
  · refine and_congr_right fun _ => forall_congr' fun j => forall_congr' fun hj => forall_congr' fun _ => not_congr ?_
    exact Nw.congr (h j (by omega)) (h (j + 1) (by omega)) x
  · exact Iff.rfl

theorem MemStep.congr {i cl : Nat} {o : Oper} {v : V} (h : ∀ k, k ≤ i + 1 → g' k = g k) (hf : fp' i = fp i) (hm : MemStep E ih ms dm g fp i cl o v) : MemStep E ih ms dm g' fp' i cl o v := by
  have e0 := h i (by omega)
  have e1 := h (i + 1) (by omega)
  obtain ⟨⟨hv, h', r0, a1, a2, a3, a4, a5⟩, b, c, d⟩ := hm
  refine ⟨⟨hv, h', r0, ?_, ?_, fun x ob hx => ?_, fun x hx => ?_, fun x hx => ?_⟩, ?_, ?_, ?_⟩
  · rw [hf, e0]; exact a1
  · rw [e1]; exact a2
  · rw [e0, Rm.congr (fun k hk => h k (by omega)) hf, hf]; exact a3 x ob hx
  · rw [e1]; exact a4 x ((Tm.congr e0 e1 hf x).1 hx)
  · rw [e1, e0]; exact a5 x (fun hn => hx ((Tm.congr e0 e1 hf x).2 hn))
  · rw [e0]; exact b
  · rw [e0, e1]; exact c
  · rw [hf, e0]; exact d

theorem StepOk.congr {i : Nat} {o : Oper} (h : ∀ k, k ≤ i + 1 → g' k = g k) (hf : fp' i = fp i) (hs : StepOk E ih all ms dm g fp i o) : StepOk E ih all ms dm g' fp' i o := by
  have e0 := h i (by omega)
  have e1 := h (i + 1) (by omega)
  obtain ⟨a, b, c, cl, v, d1, d2, d3, d4⟩ := hs
  refine ⟨by rw [e0, e1]; exact a, by rw [e0, e1]; exact b, by rw [e0, e1]; exact c, cl, v, d1, by rw [e0, e1]; exact d2, by rw [e0]; exact d3, ?_⟩
  rcases d4 with ⟨f1, f2, f3, f4⟩ | ⟨f1, f2, f3, f4, f5⟩ | ⟨f1, f2⟩
  · exact .inl ⟨by rw [e0]; exact f1, f2, by rw [e0, e1]; exact f3, (Triv.congr e0 e1 hf).2 f4⟩
  · exact .inr (.inl ⟨by rw [e0]; exact f1, f2, by rw [e0]; exact f3, by rw [e0, e1]; exact f4, (Triv.congr e0 e1 hf).2 f5⟩)
  · exact .inr (.inr ⟨by rw [e0]; exact f1, f2.congr h hf⟩)

structure Tr (E : Env) (ih : IH) (all : List Oper) (ms dm : T Nat) (i : Nat) (g : Nat → St) (fp : Nat → Fp) (recs : List Rc) : Prop where
  st : ∀ (j : Nat) o, j < i → all[j]? = some o → StepOk E ih all ms dm g fp j o
  rc : ∀ r ∈ recs, r.i < i ∧ r.fp = fp r.i ∧ r.lo = (g r.i).nx ∧ r.hi = (g (r.i + 1)).nx
  cov : ∀ j, j < i → (∃ r ∈ recs, r.i = j) ∨ Triv g fp j
  pr : ∀ a b, a < b → b < i → Cl ms b a ∨ Triv g fp b ∨ Triv g fp a ∨ pairOk (fp b) ⟨a, fp a, (g a).nx, (g (a + 1)).nx⟩ = true

theorem putO_ok {β : Type} {S : St} {dst : Option Nat} {v : V} {k : St → Option β} {r : β} (hk : putO S dst v k = some r) :
    k ⟨S.nt, S.bar, upD S.regs dst v, S.h, S.nx, S.df⟩ = some r ∧ ∀ d, dst = some d → d < S.nt := by
  obtain ⟨nt, bar, regs, h, nx, df⟩ := S
  cases dst with
  | none => exact ⟨hk, fun d h => by cases h⟩
  | some d =>
    simp only [putO] at hk
    split at hk
    · rename_i hd
      rw [T.set_eq] at hk
      exact ⟨hk, fun d' h => by cases h; simpa [Nat.blt_eq] using hd⟩
    · cases hk

/-- One step more. -/
theorem Tr.snoc {i : Nat} {recs recs' : List Rc} {o : Oper} (hT : Tr E ih all ms dm i g fp recs) (hg : ∀ k, k ≤ i → g' k = g k) (hf : ∀ k, k < i → fp' k = fp k) (ho : all[i]? = some o) (hs : StepOk E ih all ms dm g' fp' i o)
    (hr : (recs' = recs ∧ Triv g' fp' i) ∨ (recs' = ⟨i, fp' i, (g' i).nx, (g' (i + 1)).nx⟩ :: recs ∧ ∃ cl, ms.get i = some cl ∧ fits cl (fp' i) recs = true)) : Tr E ih all ms dm (i + 1) g' fp' recs' := by
  have rcOld : ∀ r ∈ recs, r.i < i + 1 ∧ r.fp = fp' r.i ∧ r.lo = (g' r.i).nx ∧ r.hi = (g' (r.i + 1)).nx := by
    intro r hr
    obtain ⟨h1, h2, h3, h4⟩ := hT.rc r hr
    exact ⟨by omega, by rw [hf _ h1]; exact h2, by rw [hg _ (by omega)]; exact h3, by rw [hg _ (by omega)]; exact h4⟩
  have tv : ∀ j, j < i → (Triv g' fp' j ↔ Triv g fp j) := fun j hj => Triv.congr (hg j (by omega)) (hg (j + 1) (by omega)) (hf j hj)
  refine ⟨fun j o' hj ho' => ?_, fun r hr' => ?_, fun j hj => ?_, fun a b hab hb => ?_⟩
  · by_cases h : j = i
    · subst h; rw [ho] at ho'; cases ho'; exact hs
    · exact (hT.st j o' (by omega) ho').congr (fun k hk => hg k (by omega)) (hf j (by omega))
  · rcases hr with ⟨rfl, _⟩ | ⟨rfl, _⟩
    · exact rcOld r hr'
    · rcases List.mem_cons.1 hr' with rfl | hr'
      · exact ⟨by simp, rfl, rfl, rfl⟩
      · exact rcOld r hr'
  · by_cases h : j = i
    · subst h
      rcases hr with ⟨_, h⟩ | ⟨rfl, _⟩
      · exact .inr h
      · exact .inl ⟨⟨j, fp' j, (g' j).nx, (g' (j + 1)).nx⟩, by simp, rfl⟩
    · rcases hT.cov j (by omega) with ⟨r, h1, h2⟩ | h1
      · refine .inl ⟨r, ?_, h2⟩
        rcases hr with ⟨rfl, _⟩ | ⟨rfl, _⟩
        · exact h1
        · simp [h1]
      · exact .inr ((tv j (by omega)).2 h1)
  · by_cases h : b = i
    · subst h
      rcases hr with ⟨_, h⟩ | ⟨_, cl, hcl, hfit⟩
      · exact .inr (.inl h)
      · rcases hT.cov a hab with ⟨r, h1, h2⟩ | h1
        · subst h2
          rcases fits_ok recs hfit r h1 with h3 | h3
          · exact .inl ⟨cl, hcl, by rw [← bit_eq]; exact h3⟩
          · refine .inr (.inr (.inr ?_))
            obtain ⟨_, e1, e2, e3⟩ := rcOld r h1
            rw [← e1, ← e2, ← e3]
            exact h3
        · exact .inr (.inr (.inl ((tv a hab).2 h1)))
    · have e : (⟨a, fp' a, (g' a).nx, (g' (a + 1)).nx⟩ : Rc) = ⟨a, fp a, (g a).nx, (g (a + 1)).nx⟩ := by rw [hf a (by omega), hg a (by omega), hg (a + 1) (by omega)]
      rw [e, hf b (by omega), tv b (by omega), tv a (by omega)]
      exact hT.pr a b hab (by omega)

def VwP (cl : Nat) (recs : List Rc) (fp : Fp) (x : Nat) : Prop :=
  match fp with
  | .all => True
  | .q => ∀ r ∈ recs, bit cl r.i = false → ¬ (r.lo ≤ x ∧ x < r.hi)
  | .ls F _ => x ∈ F

theorem viewX_ok {β : Type} {cl : Nat} {recs : List Rc} {fp : Fp} {h : T O} {bar nx : Nat} {k : T O → Nat → Option β} {r : β} (hk : viewX cl recs fp h bar nx k = some r) :
    ∃ hv, k hv (barOf fp bar nx) = some r ∧ ∀ x ob, hv.get x = some ob → h.get x = some ob ∧ VwP cl recs fp x := by
  cases fp with
  | all => exact ⟨h, hk, fun x ob hx => ⟨hx, trivial⟩⟩
  | q =>
    simp only [viewX] at hk
    rw [without_eq] at hk
    exact ⟨_, hk, fun x ob hx => withoutS_get _ _ _ _ _ hx⟩
  | ls F wr =>
    simp only [viewX] at hk
    rw [part_eq] at hk
    refine ⟨partS h F .e, ?_, fun x ob hx => ?_⟩
    · cases wr with
      | true => exact hk
      | false => exact hk
    · rw [partS_get] at hx
      split at hx
      · rename_i hm; exact ⟨hx, hm⟩
      · simp [T.get] at hx

theorem mergeX_ok {β : Type} {fp : Fp} {h h' : T O} {bar lo hi : Nat} (hlo : lo ≤ hi) {k : T O → Option β} {r : β} (hk : mergeX fp h h' bar lo hi k = some r) :
    ∃ h2, k h2 = some r ∧ (∀ x, (Wm bar fp x ∨ (lo ≤ x ∧ x < hi)) → h2.get x = h'.get x) ∧ ∀ x, ¬ (Wm bar fp x ∨ (lo ≤ x ∧ x < hi)) → h2.get x = h.get x := by
  have hs : lo + Nat.sub hi lo = hi := by show lo + (hi - lo) = hi; omega
  cases fp with
  | all => exact ⟨h', hk, fun x _ => rfl, fun x hx => absurd (.inl trivial) hx⟩
  | q =>
    simp only [mergeX] at hk
    rw [copyN_eq] at hk
    refine ⟨_, hk, fun x hx => ?_, fun x hx => ?_⟩
    · rw [copyS_get, hs, if_pos (by rcases hx with hx | hx; exact hx.elim; exact hx)]
    · rw [copyS_get, hs, if_neg (fun h => hx (.inr h))]
  | ls F wr =>
    cases wr with
    | true =>
      simp only [mergeX] at hk
      rw [part_eq, copyN_eq] at hk
      refine ⟨_, hk, fun x hx => ?_, fun x hx => ?_⟩
      · rw [copyS_get, hs]
        split
        · rfl
        · rename_i hn
          rcases hx with hx | hx
          · rw [partS_get, if_pos ((geL_mem F).2 hx.2)]
          · exact absurd hx hn
      · rw [copyS_get, hs, if_neg (fun h => hx (.inr h)), partS_get, if_neg (fun h => hx (.inl ⟨rfl, (geL_mem F).1 h⟩))]
    | false =>
      simp only [mergeX] at hk
      rw [copyN_eq] at hk
      refine ⟨_, hk, fun x hx => ?_, fun x hx => ?_⟩
      · rw [copyS_get, hs, if_pos (by rcases hx with hx | hx; exact (by cases hx.1); exact hx)]
      · rw [copyS_get, hs, if_neg (fun h => hx (.inr h))]

theorem stepD_ok {r : List Oper} {o : Oper} {i : Nat} {recs recs' : List Rc} {S' : St} (hk : stepD E ih all ms dm r o i recs (g i) = some (S', recs')) (hT : Tr E ih all ms dm i g fp recs) (ho : all[i]? = some o) :
    ∃ g' fp', Tr E ih all ms dm (i + 1) g' fp' recs' ∧ (∀ k, k ≤ i → g' k = g k) ∧ g' (i + 1) = S' := by
  have mkG : ∀ S' : St, ∃ g' : Nat → St, (∀ k, k ≤ i → g' k = g k) ∧ g' (i + 1) = S' := fun S' => ⟨fun k => if k = i + 1 then S' else g k, fun k hk => if_neg (by omega), if_pos rfl⟩
  have mkF : ∀ f : Fp, ∃ fp' : Nat → Fp, (∀ k, k < i → fp' k = fp k) ∧ fp' i = f := fun f => ⟨fun k => if k = i then f else fp k, fun k hk => if_neg (by omega), if_pos rfl⟩
  unfold stepD at hk
  split at hk
  · cases hk
  · rename_i cl hcl
    split at hk
    · cases hk
    · rename_i hw
      obtain ⟨h1, h2⟩ := putO_ok hk
      simp only [Option.some.injEq, Prod.mk.injEq] at h1
      obtain ⟨rfl, rfl⟩ := h1
      obtain ⟨g', hg, hg1⟩ := mkG ⟨(g i).nt, (g i).bar, upD (g i).regs o.dst (.tup []), (g i).h, (g i).nx, (g i).df⟩
      obtain ⟨fp', hfp, hf1⟩ := mkF (.ls [] false)
      have tv : Triv g' fp' i := by
        unfold Triv; rw [hf1, hg1, hg i (Nat.le_refl _)]; exact ⟨rfl, rfl⟩
      refine ⟨g', fp', hT.snoc hg hfp ho ?_ (.inl ⟨rfl, tv⟩), hg, hg1⟩
      refine ⟨?_, ?_, ?_, cl, .tup [], hcl, ?_, ?_, .inl ⟨?_, rfl, ?_, tv⟩⟩
      all_goals first | rw [hg1, hg i (Nat.le_refl _)] | rw [hg i (Nat.le_refl _)]
      · exact h2
      · exact hw
    · rename_i hw
      split at hk
      · rename_i hc
        obtain ⟨r0, v, g0, n0, hr0, hk, hv⟩ := outV_ok hk
        obtain ⟨h1, h2⟩ := putO_ok hk
        simp only [Option.some.injEq, Prod.mk.injEq] at h1
        obtain ⟨rfl, rfl⟩ := h1
        obtain ⟨g', hg, hg1⟩ := mkG ⟨(g i).nt, (g i).bar, upD (g i).regs o.dst v, (g i).h, (g i).nx, (g i).df⟩
        obtain ⟨fp', hfp, hf1⟩ := mkF (.ls [] false)
        have tv : Triv g' fp' i := by
          unfold Triv; rw [hf1, hg1, hg i (Nat.le_refl _)]; exact ⟨rfl, rfl⟩
        refine ⟨g', fp', hT.snoc hg hfp ho ?_ (.inl ⟨rfl, tv⟩), hg, hg1⟩
        refine ⟨?_, ?_, ?_, cl, v, hcl, ?_, ?_, .inr (.inl ⟨?_, hc, ?_, ?_, tv⟩)⟩
        all_goals first | rw [hg1, hg i (Nat.le_refl _)] | rw [hg i (Nat.le_refl _)]
        · exact h2
        · exact hw
        · exact ⟨r0, hr0, fun v' h => (hv v' _ _ h).1⟩
      · split at hk
        · rename_i f hpick
          unfold memD at hk
          obtain ⟨hgi⟩ : ∃ x, g i = x := ⟨_, rfl⟩
          split at hk
          rename_i nt bar regs h nx df hgi
          split at hk
          · cases hk
          · rename_i hchk
            simp only [Bool.and_eq_true, Nat.ble_eq] at hchk
            obtain ⟨⟨hbel, hfit⟩, hbar⟩ := hchk
            obtain ⟨hv, hk, hview⟩ := viewX_ok hk
            obtain ⟨r0, v, h', nx', hr0, hk, hval⟩ := outV_ok hk
            split at hk
            · cases hk
            · rename_i hmono
              have hmono : nx ≤ nx' := by simpa using hmono
              obtain ⟨h2, hk, hm1, hm2⟩ := mergeX_ok hmono hk
              obtain ⟨h1, hd⟩ := putO_ok hk
              simp only [Option.some.injEq, Prod.mk.injEq] at h1
              obtain ⟨rfl, rfl⟩ := h1
              obtain ⟨g', hg, hg1⟩ := mkG ⟨nt, bar, upD regs o.dst v, h2, nx', df⟩
              obtain ⟨fp', hfp, hf1⟩ := mkF f
              refine ⟨g', fp', hT.snoc hg hfp ho ?_ (.inr ⟨?_, cl, hcl, by rw [hf1]; exact hfit⟩), hg, hg1⟩
              · have e0 := hg i (Nat.le_refl _)
                refine ⟨?_, ?_, ?_, cl, v, hcl, ?_, ?_, .inr (.inr ⟨?_, ⟨hv, h', r0, ?_, ?_, fun x ob hx => ?_, fun x hx => ?_, fun x hx => ?_⟩, ?_, ?_, ?_⟩)⟩
                · rw [hg1, e0, hgi]
                · rw [hg1, e0, hgi]
                · rw [hg1, e0, hgi]
                · rw [hg1, e0, hgi]
                · rw [e0, hgi]; exact hd
                · rw [e0]; exact hw
                · rw [hf1, e0, hgi]; exact hr0
                · rw [hg1]; exact hval
                · rw [e0, hgi]
                  obtain ⟨q1, q2⟩ := hview x ob hx
                  refine ⟨q1, fun hlt => ?_⟩
                  unfold Rm
                  rw [hf1] at hlt
                  rw [hf1, e0, hgi]
                  cases f with
                  | all => trivial
                  | q =>
                    refine ⟨hlt rfl, fun j hj hnc hnw => ?_⟩
                    rw [Nw.congr (hg j (by omega)) (hg (j + 1) (by omega))] at hnw
                    rcases hT.cov j hj with ⟨rc, p1, p2⟩ | p
                    · subst p2
                      obtain ⟨_, _, p3, p4⟩ := hT.rc rc p1
                      refine q2 rc p1 ?_ ⟨by rw [p3]; exact hnw.1, by rw [p4]; exact hnw.2⟩
                      rw [← Bool.not_eq_true, bit_eq]
                      exact fun hb => hnc ⟨cl, hcl, hb⟩
                    · have := p.2; unfold Nw at hnw; omega
                  | ls F wr => exact q2
                · rw [hg1]
                  refine hm1 x ?_
                  unfold Tm Nw at hx
                  rw [hf1, hg1, e0, hgi] at hx
                  exact hx
                · rw [hg1, e0, hgi]
                  refine hm2 x ?_
                  unfold Tm Nw at hx
                  rw [hf1, hg1, e0, hgi] at hx
                  exact hx
                · rw [e0, hgi]; exact hbar
                · rw [hg1, e0, hgi]; exact hmono
                · intro F wr hF x hx
                  rw [hf1] at hF
                  rw [e0, hgi]
                  subst hF
                  exact below_ok F hbel x hx
              · rw [hf1, hg1, hg i (Nat.le_refl _), hgi]
        · cases hk

theorem drawGo_ok : ∀ (rest : List Oper) (i : Nat) (recs : List Rc) (g : Nat → St) (fp : Nat → Fp) {Se : St}, (∀ (j : Nat), rest[j]? = all[i + j]?) → drawGo E ih all ms dm rest i recs (g i) = some Se → Tr E ih all ms dm i g fp recs →
    ∃ g' fp' recs', Tr E ih all ms dm (i + rest.length) g' fp' recs' ∧ (∀ k, k ≤ i → g' k = g k) ∧ g' (i + rest.length) = Se
  | [], i, recs, g, fp, Se, hall, h, hT => by
    simp only [drawGo, Option.some.injEq] at h
    exact ⟨g, fp, recs, hT, fun _ _ => rfl, h⟩
  | o :: rest, i, recs, g, fp, Se, hall, h, hT => by
    have h0 : all[i]? = some o := by simpa using (hall 0).symm
    simp only [drawGo] at h
    split at h
    · rename_i S recs1 hst
      obtain ⟨g1, f1, hT1, hg1, hg2⟩ := stepD_ok hst hT h0
      obtain ⟨g', fp', recs', h1, h2, h3⟩ := drawGo_ok rest (i + 1) recs1 g1 f1 (fun j => by have := hall (j + 1); simpa [Nat.add_assoc, Nat.add_comm 1 j] using this) (by rw [hg2]; exact h) hT1
      refine ⟨g', fp', recs', by rw [List.length_cons, show i + (rest.length + 1) = i + 1 + rest.length by omega]; exact h1, fun k hk => ?_, by rw [List.length_cons, show i + (rest.length + 1) = i + 1 + rest.length by omega]; exact h3⟩
      rw [h2 k (by omega), hg1 k hk]
    · cases h
end
end CX
