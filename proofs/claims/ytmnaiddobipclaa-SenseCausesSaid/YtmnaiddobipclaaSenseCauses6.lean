/-
  Texts of the executors: CxDraw2, CxDraw3, CxDraw4, CxDraw5, CxCode, CxWorks, CxClose, SxClose, SxWorks.
-/
import Derived.Test.YtmnaiddobipclaaSenseCauses5
import Derived.LoopNIn
import Derived.KernelRfl
import Derived.WalkKit
import Derived.ProofKit
import Derived.JoinedCond
import Derived.RowKit3
import Derived.ChangeArms
import Derived.ChangeCalls
import Derived.WideKeyArgs
/-
  CX: drawn regions: what one run of the executor says of each operation.
-/
namespace CX
open Go

def Wm (bar : Nat) (fp : Fp) (x : Nat) : Prop :=
  match fp with
  | .all => True
  | .q => False
  | .ls F wr => wr = true ∧ x ∈ F ∧ bar ≤ x
def Nw (g : Nat → St) (i x : Nat) : Prop := (g i).nx ≤ x ∧ x < (g (i + 1)).nx
def Tm (g : Nat → St) (fp : Nat → Fp) (i x : Nat) : Prop := Wm (g i).bar (fp i) x ∨ Nw g i x
def Cl (ms : T Nat) (i j : Nat) : Prop := ∃ m, ms.get i = some m ∧ m.testBit j = true
def Rm (ms : T Nat) (g : Nat → St) (fp : Nat → Fp) (i x : Nat) : Prop :=
  match fp i with
  | .all => True
  | .q => x < (g i).nx ∧ ∀ j, j < i → ¬ Cl ms i j → ¬ Nw g j x
  | .ls F _ => x ∈ F
def Triv (g : Nat → St) (fp : Nat → Fp) (i : Nat) : Prop := fp i = .ls [] false ∧ (g (i + 1)).nx = (g i).nx

def barOf (fp : Fp) (bar nx : Nat) : Nat :=
  match fp with
  | .all => bar
  | .q => nx
  | .ls _ wr => match wr with
    | true => bar
    | false => nx

structure MemStep (E : Env) (ih : IH) (ms dm : T Nat) (g : Nat → St) (fp : Nat → Fp) (i cl : Nat) (o : Oper) (v : V) : Prop where
  ran : ∃ hv h' r0, opA E ih (barOf (fp i) (g i).bar (g i).nx) (evD (g i).regs ms dm i cl) hv (g i).nx o.op retV = some r0 ∧ (∀ v' g' n', retV v' g' n' = some r0 → v' = v ∧ g' = h' ∧ n' = (g (i + 1)).nx) ∧
    (∀ x ob, hv.get x = some ob → (g i).h.get x = some ob ∧ ((fp i = .q → x < (g i).nx) → Rm ms g fp i x)) ∧
    (∀ x, Tm g fp i x → (g (i + 1)).h.get x = h'.get x) ∧ (∀ x, ¬ Tm g fp i x → (g (i + 1)).h.get x = (g i).h.get x)
  bar : (g i).bar ≤ (g i).nx
  mono : (g i).nx ≤ (g (i + 1)).nx
  low : ∀ F wr, fp i = .ls F wr → ∀ x ∈ F, x < (g i).nx

structure StepOk (E : Env) (ih : IH) (all : List Oper) (ms dm : T Nat) (g : Nat → St) (fp : Nat → Fp) (i : Nat) (o : Oper) : Prop where
  nt : (g (i + 1)).nt = (g i).nt
  bar : (g (i + 1)).bar = (g i).bar
  df : (g (i + 1)).df = (g i).df
  ex : ∃ cl v, ms.get i = some cl ∧ (g (i + 1)).regs = upD (g i).regs o.dst v ∧ (∀ d, o.dst = some d → d < (g i).nt) ∧
    ((wantB (g i).regs ms dm i cl all o = some false ∧ v = .tup [] ∧ (g (i + 1)).h = (g i).h ∧ Triv g fp i) ∨
     (wantB (g i).regs ms dm i cl all o = some true ∧ clsOf E o.op = 0 ∧ (∃ r0, opP E (evD (g i).regs ms dm i cl) o.op (fun v => retV v .e 0) = some r0 ∧ ∀ v', retV v' .e 0 = some r0 → v' = v) ∧
        (g (i + 1)).h = (g i).h ∧ Triv g fp i) ∨
     (wantB (g i).regs ms dm i cl all o = some true ∧ MemStep E ih ms dm g fp i cl o v))

section
variable {E : Env} {ih : IH} {all : List Oper} {ms dm : T Nat} {g g' : Nat → St} {fp fp' : Nat → Fp}

theorem Nw.congr {i : Nat} (h : g' i = g i) (h1 : g' (i + 1) = g (i + 1)) (x : Nat) : Nw g' i x ↔ Nw g i x := by unfold Nw; rw [h, h1]
theorem Tm.congr {i : Nat} (h : g' i = g i) (h1 : g' (i + 1) = g (i + 1)) (hf : fp' i = fp i) (x : Nat) : Tm g' fp' i x ↔ Tm g fp i x := by unfold Tm; rw [Nw.congr h h1, h, hf]
theorem Triv.congr {i : Nat} (h : g' i = g i) (h1 : g' (i + 1) = g (i + 1)) (hf : fp' i = fp i) : Triv g' fp' i ↔ Triv g fp i := by unfold Triv; rw [h, h1, hf]
theorem Rm.congr {i : Nat} (h : ∀ k, k ≤ i → g' k = g k) (hf : fp' i = fp i) (x : Nat) : Rm ms g' fp' i x ↔ Rm ms g fp i x := by
  unfold Rm
  rw [hf, h i (Nat.le_refl _)]
  split
  · exact Iff.rfl
  · refine and_congr_right fun _ => forall_congr' fun j => forall_congr' fun hj => forall_congr' fun _ => not_congr ?_
    exact Nw.congr (h j (by omega)) (h (j + 1) (by omega)) x
  · exact Iff.rfl

theorem MemStep.congr {i cl : Nat} {o : Oper} {v : V} (h : ∀ k, k ≤ i + 1 → g' k = g k) (hf : fp' i = fp i) (hm : MemStep E ih ms dm g fp i cl o v) : MemStep E ih ms dm g' fp' i cl o v := by
  have e0 := h i (by omega)
  have e1 := h (i + 1) (by omega)
  obtain ⟨⟨hv, h', r0, a1, a2, a3, a4, a5⟩, b, c, d⟩ := hm
  refine ⟨⟨hv, h', r0, ?_, ?_, fun x ob hx => ?_, fun x hx => ?_, fun x hx => ?_⟩, ?_, ?_, ?_⟩
  · rw [hf, e0]; exact a1
  · rw [e1]; exact a2
  · rw [e0, Rm.congr (fun k hk => h k (by omega)) hf, hf]; exact a3 x ob hx
  · rw [e1]; exact a4 x ((Tm.congr e0 e1 hf x).1 hx)
  · rw [e1, e0]; exact a5 x (fun hn => hx ((Tm.congr e0 e1 hf x).2 hn))
  · rw [e0]; exact b
  · rw [e0, e1]; exact c
  · rw [hf, e0]; exact d

theorem StepOk.congr {i : Nat} {o : Oper} (h : ∀ k, k ≤ i + 1 → g' k = g k) (hf : fp' i = fp i) (hs : StepOk E ih all ms dm g fp i o) : StepOk E ih all ms dm g' fp' i o := by
  have e0 := h i (by omega)
  have e1 := h (i + 1) (by omega)
  obtain ⟨a, b, c, cl, v, d1, d2, d3, d4⟩ := hs
  refine ⟨by rw [e0, e1]; exact a, by rw [e0, e1]; exact b, by rw [e0, e1]; exact c, cl, v, d1, by rw [e0, e1]; exact d2, by rw [e0]; exact d3, ?_⟩
  rcases d4 with ⟨f1, f2, f3, f4⟩ | ⟨f1, f2, f3, f4, f5⟩ | ⟨f1, f2⟩
  · exact .inl ⟨by rw [e0]; exact f1, f2, by rw [e0, e1]; exact f3, (Triv.congr e0 e1 hf).2 f4⟩
  · exact .inr (.inl ⟨by rw [e0]; exact f1, f2, by rw [e0]; exact f3, by rw [e0, e1]; exact f4, (Triv.congr e0 e1 hf).2 f5⟩)
  · exact .inr (.inr ⟨by rw [e0]; exact f1, f2.congr h hf⟩)

structure Tr (E : Env) (ih : IH) (all : List Oper) (ms dm : T Nat) (i : Nat) (g : Nat → St) (fp : Nat → Fp) (recs : List Rc) : Prop where
  st : ∀ (j : Nat) o, j < i → all[j]? = some o → StepOk E ih all ms dm g fp j o
  rc : ∀ r ∈ recs, r.i < i ∧ r.fp = fp r.i ∧ r.lo = (g r.i).nx ∧ r.hi = (g (r.i + 1)).nx
  cov : ∀ j, j < i → (∃ r ∈ recs, r.i = j) ∨ Triv g fp j
  pr : ∀ a b, a < b → b < i → Cl ms b a ∨ Triv g fp b ∨ Triv g fp a ∨ pairOk (fp b) ⟨a, fp a, (g a).nx, (g (a + 1)).nx⟩ = true

theorem putO_ok {β : Type} {S : St} {dst : Option Nat} {v : V} {k : St → Option β} {r : β} (hk : putO S dst v k = some r) :
    k ⟨S.nt, S.bar, upD S.regs dst v, S.h, S.nx, S.df⟩ = some r ∧ ∀ d, dst = some d → d < S.nt := by
  obtain ⟨nt, bar, regs, h, nx, df⟩ := S
  cases dst with
  | none => exact ⟨hk, fun d h => by cases h⟩
  | some d =>
    simp only [putO] at hk
    split at hk
    · rename_i hd
      rw [T.set_eq] at hk
      exact ⟨hk, fun d' h => by cases h; simpa [Nat.blt_eq] using hd⟩
    · cases hk

/-- One step more. -/
theorem Tr.snoc {i : Nat} {recs recs' : List Rc} {o : Oper} (hT : Tr E ih all ms dm i g fp recs) (hg : ∀ k, k ≤ i → g' k = g k) (hf : ∀ k, k < i → fp' k = fp k) (ho : all[i]? = some o) (hs : StepOk E ih all ms dm g' fp' i o)
    (hr : (recs' = recs ∧ Triv g' fp' i) ∨ (recs' = ⟨i, fp' i, (g' i).nx, (g' (i + 1)).nx⟩ :: recs ∧ ∃ cl, ms.get i = some cl ∧ fits cl (fp' i) recs = true)) : Tr E ih all ms dm (i + 1) g' fp' recs' := by
  have rcOld : ∀ r ∈ recs, r.i < i + 1 ∧ r.fp = fp' r.i ∧ r.lo = (g' r.i).nx ∧ r.hi = (g' (r.i + 1)).nx := by
    intro r hr
    obtain ⟨h1, h2, h3, h4⟩ := hT.rc r hr
    exact ⟨by omega, by rw [hf _ h1]; exact h2, by rw [hg _ (by omega)]; exact h3, by rw [hg _ (by omega)]; exact h4⟩
  have tv : ∀ j, j < i → (Triv g' fp' j ↔ Triv g fp j) := fun j hj => Triv.congr (hg j (by omega)) (hg (j + 1) (by omega)) (hf j hj)
  refine ⟨fun j o' hj ho' => ?_, fun r hr' => ?_, fun j hj => ?_, fun a b hab hb => ?_⟩
  · by_cases h : j = i
    · subst h; rw [ho] at ho'; cases ho'; exact hs
    · exact (hT.st j o' (by omega) ho').congr (fun k hk => hg k (by omega)) (hf j (by omega))
  · rcases hr with ⟨rfl, _⟩ | ⟨rfl, _⟩
    · exact rcOld r hr'
    · rcases List.mem_cons.1 hr' with rfl | hr'
      · exact ⟨by simp, rfl, rfl, rfl⟩
      · exact rcOld r hr'
  · by_cases h : j = i
    · subst h
      rcases hr with ⟨_, h⟩ | ⟨rfl, _⟩
      · exact .inr h
      · exact .inl ⟨⟨j, fp' j, (g' j).nx, (g' (j + 1)).nx⟩, by simp, rfl⟩
    · rcases hT.cov j (by omega) with ⟨r, h1, h2⟩ | h1
      · refine .inl ⟨r, ?_, h2⟩
        rcases hr with ⟨rfl, _⟩ | ⟨rfl, _⟩
        · exact h1
        · simp [h1]
      · exact .inr ((tv j (by omega)).2 h1)
  · by_cases h : b = i
    · subst h
      rcases hr with ⟨_, h⟩ | ⟨_, cl, hcl, hfit⟩
      · exact .inr (.inl h)
      · rcases hT.cov a hab with ⟨r, h1, h2⟩ | h1
        · subst h2
          rcases fits_ok recs hfit r h1 with h3 | h3
          · exact .inl ⟨cl, hcl, by rw [← bit_eq]; exact h3⟩
          · refine .inr (.inr (.inr ?_))
            obtain ⟨_, e1, e2, e3⟩ := rcOld r h1
            rw [← e1, ← e2, ← e3]
            exact h3
        · exact .inr (.inr (.inl ((tv a hab).2 h1)))
    · have e : (⟨a, fp' a, (g' a).nx, (g' (a + 1)).nx⟩ : Rc) = ⟨a, fp a, (g a).nx, (g (a + 1)).nx⟩ := by rw [hf a (by omega), hg a (by omega), hg (a + 1) (by omega)]
      rw [e, hf b (by omega), tv b (by omega), tv a (by omega)]
      exact hT.pr a b hab (by omega)

def VwP (cl : Nat) (recs : List Rc) (fp : Fp) (x : Nat) : Prop :=
  match fp with
  | .all => True
  | .q => ∀ r ∈ recs, bit cl r.i = false → ¬ (r.lo ≤ x ∧ x < r.hi)
  | .ls F _ => x ∈ F

theorem viewX_ok {β : Type} {cl : Nat} {recs : List Rc} {fp : Fp} {h : T O} {bar nx : Nat} {k : T O → Nat → Option β} {r : β} (hk : viewX cl recs fp h bar nx k = some r) :
    ∃ hv, k hv (barOf fp bar nx) = some r ∧ ∀ x ob, hv.get x = some ob → h.get x = some ob ∧ VwP cl recs fp x := by
  cases fp with
  | all => exact ⟨h, hk, fun x ob hx => ⟨hx, trivial⟩⟩
  | q =>
    simp only [viewX] at hk
    rw [without_eq] at hk
    exact ⟨_, hk, fun x ob hx => withoutS_get _ _ _ _ _ hx⟩
  | ls F wr =>
    simp only [viewX] at hk
    rw [part_eq] at hk
    refine ⟨partS h F .e, ?_, fun x ob hx => ?_⟩
    · cases wr with
      | true => exact hk
      | false => exact hk
    · rw [partS_get] at hx
      split at hx
      · rename_i hm; exact ⟨hx, hm⟩
      · simp [T.get] at hx

theorem mergeX_ok {β : Type} {fp : Fp} {h h' : T O} {bar lo hi : Nat} (hlo : lo ≤ hi) {k : T O → Option β} {r : β} (hk : mergeX fp h h' bar lo hi k = some r) :
    ∃ h2, k h2 = some r ∧ (∀ x, (Wm bar fp x ∨ (lo ≤ x ∧ x < hi)) → h2.get x = h'.get x) ∧ ∀ x, ¬ (Wm bar fp x ∨ (lo ≤ x ∧ x < hi)) → h2.get x = h.get x := by
  have hs : lo + Nat.sub hi lo = hi := by show lo + (hi - lo) = hi; omega
  cases fp with
  | all => exact ⟨h', hk, fun x _ => rfl, fun x hx => absurd (.inl trivial) hx⟩
  | q =>
    simp only [mergeX] at hk
    rw [copyN_eq] at hk
    refine ⟨_, hk, fun x hx => ?_, fun x hx => ?_⟩
    · rw [copyS_get, hs, if_pos (by rcases hx with hx | hx; exact hx.elim; exact hx)]
    · rw [copyS_get, hs, if_neg (fun h => hx (.inr h))]
  | ls F wr =>
    cases wr with
    | true =>
      simp only [mergeX] at hk
      rw [part_eq, copyN_eq] at hk
      refine ⟨_, hk, fun x hx => ?_, fun x hx => ?_⟩
      · rw [copyS_get, hs]
        split
        · rfl
        · rename_i hn
          rcases hx with hx | hx
          · rw [partS_get, if_pos ((geL_mem F).2 hx.2)]
          · exact absurd hx hn
      · rw [copyS_get, hs, if_neg (fun h => hx (.inr h)), partS_get, if_neg (fun h => hx (.inl ⟨rfl, (geL_mem F).1 h⟩))]
    | false =>
      simp only [mergeX] at hk
      rw [copyN_eq] at hk
      refine ⟨_, hk, fun x hx => ?_, fun x hx => ?_⟩
      · rw [copyS_get, hs, if_pos (by rcases hx with hx | hx; exact (by cases hx.1); exact hx)]
      · rw [copyS_get, hs, if_neg (fun h => hx (.inr h))]

theorem stepD_ok {r : List Oper} {o : Oper} {i : Nat} {recs recs' : List Rc} {S' : St} (hk : stepD E ih all ms dm r o i recs (g i) = some (S', recs')) (hT : Tr E ih all ms dm i g fp recs) (ho : all[i]? = some o) :
    ∃ g' fp', Tr E ih all ms dm (i + 1) g' fp' recs' ∧ (∀ k, k ≤ i → g' k = g k) ∧ g' (i + 1) = S' := by
  have mkG : ∀ S' : St, ∃ g' : Nat → St, (∀ k, k ≤ i → g' k = g k) ∧ g' (i + 1) = S' := fun S' => ⟨fun k => if k = i + 1 then S' else g k, fun k hk => if_neg (by omega), if_pos rfl⟩
  have mkF : ∀ f : Fp, ∃ fp' : Nat → Fp, (∀ k, k < i → fp' k = fp k) ∧ fp' i = f := fun f => ⟨fun k => if k = i then f else fp k, fun k hk => if_neg (by omega), if_pos rfl⟩
  unfold stepD at hk
  split at hk
  · cases hk
  · rename_i cl hcl
    split at hk
    · cases hk
    · rename_i hw
      obtain ⟨h1, h2⟩ := putO_ok hk
      simp only [Option.some.injEq, Prod.mk.injEq] at h1
      obtain ⟨rfl, rfl⟩ := h1
      obtain ⟨g', hg, hg1⟩ := mkG ⟨(g i).nt, (g i).bar, upD (g i).regs o.dst (.tup []), (g i).h, (g i).nx, (g i).df⟩
      obtain ⟨fp', hfp, hf1⟩ := mkF (.ls [] false)
      have tv : Triv g' fp' i := by
        unfold Triv; rw [hf1, hg1, hg i (Nat.le_refl _)]; exact ⟨rfl, rfl⟩
      refine ⟨g', fp', hT.snoc hg hfp ho ?_ (.inl ⟨rfl, tv⟩), hg, hg1⟩
      refine ⟨?_, ?_, ?_, cl, .tup [], hcl, ?_, ?_, .inl ⟨?_, rfl, ?_, tv⟩⟩
      all_goals first | rw [hg1, hg i (Nat.le_refl _)] | rw [hg i (Nat.le_refl _)]
      · exact h2
      · exact hw
    · rename_i hw
      split at hk
      · rename_i hc
        obtain ⟨r0, v, g0, n0, hr0, hk, hv⟩ := outV_ok hk
        obtain ⟨h1, h2⟩ := putO_ok hk
        simp only [Option.some.injEq, Prod.mk.injEq] at h1
        obtain ⟨rfl, rfl⟩ := h1
        obtain ⟨g', hg, hg1⟩ := mkG ⟨(g i).nt, (g i).bar, upD (g i).regs o.dst v, (g i).h, (g i).nx, (g i).df⟩
        obtain ⟨fp', hfp, hf1⟩ := mkF (.ls [] false)
        have tv : Triv g' fp' i := by
          unfold Triv; rw [hf1, hg1, hg i (Nat.le_refl _)]; exact ⟨rfl, rfl⟩
        refine ⟨g', fp', hT.snoc hg hfp ho ?_ (.inl ⟨rfl, tv⟩), hg, hg1⟩
        refine ⟨?_, ?_, ?_, cl, v, hcl, ?_, ?_, .inr (.inl ⟨?_, hc, ?_, ?_, tv⟩)⟩
        all_goals first | rw [hg1, hg i (Nat.le_refl _)] | rw [hg i (Nat.le_refl _)]
        · exact h2
        · exact hw
        · exact ⟨r0, hr0, fun v' h => (hv v' _ _ h).1⟩
      · split at hk
        · rename_i f hpick
          unfold memD at hk
          obtain ⟨hgi⟩ : ∃ x, g i = x := ⟨_, rfl⟩
          split at hk
          rename_i nt bar regs h nx df hgi
          split at hk
          · cases hk
          · rename_i hchk
            simp only [Bool.and_eq_true, Nat.ble_eq] at hchk
            obtain ⟨⟨hbel, hfit⟩, hbar⟩ := hchk
            obtain ⟨hv, hk, hview⟩ := viewX_ok hk
            obtain ⟨r0, v, h', nx', hr0, hk, hval⟩ := outV_ok hk
            split at hk
            · cases hk
            · rename_i hmono
              have hmono : nx ≤ nx' := by simpa using hmono
              obtain ⟨h2, hk, hm1, hm2⟩ := mergeX_ok hmono hk
              obtain ⟨h1, hd⟩ := putO_ok hk
              simp only [Option.some.injEq, Prod.mk.injEq] at h1
              obtain ⟨rfl, rfl⟩ := h1
              obtain ⟨g', hg, hg1⟩ := mkG ⟨nt, bar, upD regs o.dst v, h2, nx', df⟩
              obtain ⟨fp', hfp, hf1⟩ := mkF f
              refine ⟨g', fp', hT.snoc hg hfp ho ?_ (.inr ⟨?_, cl, hcl, by rw [hf1]; exact hfit⟩), hg, hg1⟩
              · have e0 := hg i (Nat.le_refl _)
                refine ⟨?_, ?_, ?_, cl, v, hcl, ?_, ?_, .inr (.inr ⟨?_, ⟨hv, h', r0, ?_, ?_, fun x ob hx => ?_, fun x hx => ?_, fun x hx => ?_⟩, ?_, ?_, ?_⟩)⟩
                · rw [hg1, e0, hgi]
                · rw [hg1, e0, hgi]
                · rw [hg1, e0, hgi]
                · rw [hg1, e0, hgi]
                · rw [e0, hgi]; exact hd
                · rw [e0]; exact hw
                · rw [hf1, e0, hgi]; exact hr0
                · rw [hg1]; exact hval
                · rw [e0, hgi]
                  obtain ⟨q1, q2⟩ := hview x ob hx
                  refine ⟨q1, fun hlt => ?_⟩
                  unfold Rm
                  rw [hf1] at hlt
                  rw [hf1, e0, hgi]
                  cases f with
                  | all => trivial
                  | q =>
                    refine ⟨hlt rfl, fun j hj hnc hnw => ?_⟩
                    rw [Nw.congr (hg j (by omega)) (hg (j + 1) (by omega))] at hnw
                    rcases hT.cov j hj with ⟨rc, p1, p2⟩ | p
                    · subst p2
                      obtain ⟨_, _, p3, p4⟩ := hT.rc rc p1
                      refine q2 rc p1 ?_ ⟨by rw [p3]; exact hnw.1, by rw [p4]; exact hnw.2⟩
                      rw [← Bool.not_eq_true, bit_eq]
                      exact fun hb => hnc ⟨cl, hcl, hb⟩
                    · have := p.2; unfold Nw at hnw; omega
                  | ls F wr => exact q2
                · rw [hg1]
                  refine hm1 x ?_
                  unfold Tm Nw at hx
                  rw [hf1, hg1, e0, hgi] at hx
                  exact hx
                · rw [hg1, e0, hgi]
                  refine hm2 x ?_
                  unfold Tm Nw at hx
                  rw [hf1, hg1, e0, hgi] at hx
                  exact hx
                · rw [e0, hgi]; exact hbar
                · rw [hg1, e0, hgi]; exact hmono
                · intro F wr hF x hx
                  rw [hf1] at hF
                  rw [e0, hgi]
                  subst hF
                  exact below_ok F hbel x hx
              · rw [hf1, hg1, hg i (Nat.le_refl _), hgi]
        · cases hk

theorem drawGo_ok : ∀ (rest : List Oper) (i : Nat) (recs : List Rc) (g : Nat → St) (fp : Nat → Fp) {Se : St}, (∀ (j : Nat), rest[j]? = all[i + j]?) → drawGo E ih all ms dm rest i recs (g i) = some Se → Tr E ih all ms dm i g fp recs →
    ∃ g' fp' recs', Tr E ih all ms dm (i + rest.length) g' fp' recs' ∧ (∀ k, k ≤ i → g' k = g k) ∧ g' (i + rest.length) = Se
  | [], i, recs, g, fp, Se, hall, h, hT => by
    simp only [drawGo, Option.some.injEq] at h
    exact ⟨g, fp, recs, hT, fun _ _ => rfl, h⟩
  | o :: rest, i, recs, g, fp, Se, hall, h, hT => by
    have h0 : all[i]? = some o := by simpa using (hall 0).symm
    simp only [drawGo] at h
    split at h
    · rename_i S recs1 hst
      obtain ⟨g1, f1, hT1, hg1, hg2⟩ := stepD_ok hst hT h0
      obtain ⟨g', fp', recs', h1, h2, h3⟩ := drawGo_ok rest (i + 1) recs1 g1 f1 (fun j => by have := hall (j + 1); simpa [Nat.add_assoc, Nat.add_comm 1 j] using this) (by rw [hg2]; exact h) hT1
      refine ⟨g', fp', recs', by rw [List.length_cons, show i + (rest.length + 1) = i + 1 + rest.length by omega]; exact h1, fun k hk => ?_, by rw [List.length_cons, show i + (rest.length + 1) = i + 1 + rest.length by omega]; exact h3⟩
      rw [h2 k (by omega), hg1 k hk]
    · cases h
end
end CX

/-
  CX: drawn regions: whatever the order, the same state.
-/
namespace CX
open Go

section
variable {P : Program} {E : Env} {ih : IH} {all : List Oper} {ms dm : T Nat} {g : Nat → St} {fp : Nat → Fp} {recs : List Rc} {len : Nat}

theorem Tr.at (hT : Tr E ih all ms dm len g fp recs) (hl : len = all.length) {i : Nat} (hi : i < len) : ∃ o, all[i]? = some o ∧ StepOk E ih all ms dm g fp i o := by
  obtain ⟨o, ho⟩ : ∃ o, all[i]? = some o := ⟨all[i]'(by omega), by simp [show i < all.length by omega]⟩
  exact ⟨o, ho, hT.st i o hi ho⟩

theorem StepOk.mono {i : Nat} {o : Oper} (h : StepOk E ih all ms dm g fp i o) : (g i).nx ≤ (g (i + 1)).nx := by
  obtain ⟨_, _, _, cl, v, _, _, _, h | h | h⟩ := h
  · exact Nat.le_of_eq h.2.2.2.2.symm
  · exact Nat.le_of_eq h.2.2.2.2.2.symm
  · exact h.2.mono

theorem StepOk.low {i : Nat} {o : Oper} (h : StepOk E ih all ms dm g fp i o) : ∀ F wr, fp i = .ls F wr → ∀ x ∈ F, x < (g i).nx := by
  obtain ⟨_, _, _, cl, v, _, _, _, h | h | h⟩ := h
  · intro F wr hF x hx; rw [h.2.2.2.1] at hF; cases hF; simp at hx
  · intro F wr hF x hx; rw [h.2.2.2.2.1] at hF; cases hF; simp at hx
  · exact h.2.low

theorem Triv.not {i x : Nat} (h : Triv g fp i) : ¬ Tm g fp i x := by
  unfold Tm Wm Nw
  rw [h.1, h.2]
  rintro (h | h)
  · exact absurd h.1 (by simp)
  · omega

theorem StepOk.same {i : Nat} {o : Oper} (h : StepOk E ih all ms dm g fp i o) (x : Nat) (hx : ¬ Tm g fp i x) : (g (i + 1)).h.get x = (g i).h.get x := by
  obtain ⟨_, _, _, cl, v, _, _, _, h | h | h⟩ := h
  · rw [h.2.2.1]
  · rw [h.2.2.2.1]
  · obtain ⟨_, _, _, _, _, _, _, h⟩ := h.2.ran
    exact h x hx

def TmR (all : List Oper) (i x : Nat) : Prop := ∃ o, all[i]? = some o ∧ o.dst = some x
def RdR (ms dm : T Nat) (i x : Nat) : Prop := dm.get x = none ∨ ∃ j, dm.get x = some j ∧ (Cl ms i j ∨ Cl ms j i)

theorem StepOk.sameR {i : Nat} {o : Oper} (h : StepOk E ih all ms dm g fp i o) (ho : all[i]? = some o) (x : Nat) (hx : ¬ TmR all i x) : (g (i + 1)).regs.get x = (g i).regs.get x := by
  obtain ⟨_, _, _, cl, v, _, h, _, _⟩ := h
  rw [h]
  unfold upD
  split
  · rfl
  · rename_i d hd
    rw [T.get_up, if_neg]
    rintro rfl
    exact hx ⟨o, ho, hd⟩

theorem Cl.lt (hp : PrepOk all ms dm) {i j : Nat} (h : Cl ms i j) : j < i := by
  obtain ⟨m, h1, h2⟩ := h
  exact hp.lt i m j h1 h2

theorem nx_mono (hT : Tr E ih all ms dm len g fp recs) (hl : len = all.length) : ∀ (n a b : Nat), a + n = b → b ≤ len → (g a).nx ≤ (g b).nx
  | 0, a, b, h, _ => by rw [← h]; exact Nat.le_refl _
  | n + 1, a, b, h, hb => by
    obtain ⟨o, _, hs⟩ := hT.at hl (i := a) (by omega)
    exact Nat.le_trans hs.mono (nx_mono hT hl n (a + 1) b (by omega) hb)
theorem nx_le (hT : Tr E ih all ms dm len g fp recs) (hl : len = all.length) {a b : Nat} (h : a ≤ b) (hb : b ≤ len) : (g a).nx ≤ (g b).nx := nx_mono hT hl (b - a) a b (by omega) hb

theorem regT1 (hp : PrepOk all ms dm) {i j x : Nat} (_hij : j < i) (h1 : TmR all j x) (h2 : TmR all i x) : Cl ms i j := by
  obtain ⟨o, ho, hd⟩ := h1
  obtain ⟨o', ho', hd'⟩ := h2
  have e1 := hp.hd j o x ho hd
  have e2 := hp.hd i o' x ho' hd'
  rw [e1] at e2
  cases e2
  omega
theorem regT2 (hp : PrepOk all ms dm) {i j x : Nat} (hij : j < i) (h1 : TmR all j x) (h2 : RdR ms dm i x) : Cl ms i j := by
  obtain ⟨o, ho, hd⟩ := h1
  have e1 := hp.hd j o x ho hd
  rcases h2 with h | ⟨q, h, h'⟩
  · rw [h] at e1; cases e1
  · rw [h] at e1; cases e1
    rcases h' with h' | h'
    · exact h'
    · have := Cl.lt hp h'; omega
theorem regT3 (hp : PrepOk all ms dm) {i j x : Nat} (hij : j < i) (h1 : RdR ms dm j x) (h2 : TmR all i x) : Cl ms i j := by
  obtain ⟨o, ho, hd⟩ := h2
  have e1 := hp.hd i o x ho hd
  rcases h1 with h | ⟨q, h, h'⟩
  · rw [h] at e1; cases e1
  · rw [h] at e1; cases e1
    rcases h' with h' | h'
    · have := Cl.lt hp h'; omega
    · exact h'

theorem memT (hT : Tr E ih all ms dm len g fp recs) (hl : len = all.length) {i j x : Nat} (hij : j < i) (hi : i < len) :
    (Tm g fp j x → Tm g fp i x → Cl ms i j) ∧ (Tm g fp j x → Rm ms g fp i x → Cl ms i j) ∧ (Rm ms g fp j x → Tm g fp i x → Cl ms i j) := by
  by_cases hc : Cl ms i j
  · exact ⟨fun _ _ => hc, fun _ _ => hc, fun _ _ => hc⟩
  obtain ⟨oi, _, hsi⟩ := hT.at hl hi
  obtain ⟨oj, _, hsj⟩ := hT.at hl (i := j) (by omega)
  have hn1 : (g j).nx ≤ (g (j + 1)).nx := hsj.mono
  have hn2 : (g (j + 1)).nx ≤ (g i).nx := nx_le hT hl (by omega) (by omega)
  have lowj := hsj.low
  have tRm : ∀ k, Triv g fp k → ¬ Rm ms g fp k x := by
    intro k hk h
    unfold Rm at h
    rw [hk.1] at h
    simp at h
  rcases hT.pr j i hij hi with h | h | h | h
  · exact absurd h hc
  · exact ⟨fun _ h2 => absurd h2 h.not, fun _ h2 => absurd h2 (tRm i h), fun _ h2 => absurd h2 h.not⟩
  · exact ⟨fun h2 => absurd h2 h.not, fun h2 => absurd h2 h.not, fun h2 => absurd h2 (tRm j h)⟩
  · unfold pairOk at h
    cases hfi : fp i with
    | all => rw [hfi] at h; cases h
    | q =>
      rw [hfi] at h
      cases hfj : fp j with
      | all => rw [hfj] at h; cases h
      | q =>
        unfold Tm Rm Wm
        rw [hfi, hfj]
        simp only [Nw, false_or]
        refine ⟨fun h1 h2 => by omega, fun h1 h2 => absurd h1 ?_, fun h1 h2 => by omega⟩
        have := h2.2 j hij hc
        simpa [Nw] using this
      | ls F wr =>
        rw [hfj] at h
        have hw : wr = true → F = [] := by
          intro e; subst e; exact isNil_ok h
        unfold Tm Rm Wm
        rw [hfi, hfj]
        simp only [Nw, false_or]
        refine ⟨fun h1 h2 => ?_, fun h1 h2 => ?_, fun h1 h2 => ?_⟩
        · rcases h1 with h1 | h1
          · have := lowj F wr hfj x h1.2.1; omega
          · omega
        · rcases h1 with h1 | h1
          · rw [hw h1.1] at h1; simp at h1
          · have := h2.2 j hij hc
            exact absurd h1 (by simpa [Nw] using this)
        · have := lowj F wr hfj x h1; omega
    | ls F wr =>
      rw [hfi] at h
      cases hfj : fp j with
      | all => rw [hfj] at h; cases h
      | q =>
        rw [hfj] at h
        have hw : wr = true → F = [] := by
          intro e; subst e; exact isNil_ok h
        have ho : x ∈ F → ¬ ((g j).nx ≤ x ∧ x < (g (j + 1)).nx) := by
          intro hx
          cases wr with
          | true => rw [hw rfl] at hx; simp at hx
          | false => exact outs_ok F h x hx
        unfold Tm Rm Wm
        rw [hfi, hfj]
        simp only [Nw, false_or]
        refine ⟨fun h1 h2 => ?_, fun h1 h2 => absurd h1 (ho h2), fun h1 h2 => ?_⟩
        · rcases h2 with h2 | h2
          · exact absurd h1 (ho h2.2.1)
          · omega
        · rcases h2 with h2 | h2
          · rw [hw h2.1] at h2; simp at h2
          · omega
      | ls F' wr' =>
        rw [hfj] at h
        simp only at h
        split at h
        · cases h
        · rename_i hout
          have ho := outs_ok F hout x
          have hd : (wr = true ∨ wr' = true) → x ∈ F → x ∈ F' → False := by
            intro hw h1 h2
            cases wr <;> cases wr' <;> first | (simp at hw; done) | exact disj_ok F F' h x h1 h2
          unfold Tm Rm Wm
          rw [hfi, hfj]
          simp only [Nw]
          refine ⟨fun h1 h2 => ?_, fun h1 h2 => ?_, fun h1 h2 => ?_⟩
          · rcases h2 with h2 | h2
            · rcases h1 with h1 | h1
              · exact (hd (.inl h2.1) h2.2.1 h1.2.1).elim
              · exact absurd h1 (ho h2.2.1)
            · rcases h1 with h1 | h1
              · have := lowj F' wr' hfj x h1.2.1; omega
              · omega
          · rcases h1 with h1 | h1
            · exact (hd (.inr h1.1) h2 h1.2.1).elim
            · exact absurd h1 (ho h2)
          · rcases h2 with h2 | h2
            · exact (hd (.inl h2.1) h2.2.1 h1).elim
            · have := lowj F' wr' hfj x h1; omega

structure DInv (ρ0 : Nm) (w0 : World) (all : List Oper) (len : Nat) (g : Nat → St) (fp : Nat → Fp) (D : Nat → Prop) (ρ : Nm) (xh : Nat → Option O) (xr : Nat → Option V) (a : Act) (w : World) : Prop where
  mem : ∀ x, ∃ m, m ≤ len ∧ xh x = (g m).h.get x ∧ (∀ t, t < len → Tm g fp t x → (t < m ↔ D t)) ∧ (m = 0 ∨ ∃ t, m = t + 1 ∧ t < len ∧ Tm g fp t x) ∧ ∀ o, xh x = some o → x < (g m).nx ∧ ObjOk ρ (g m).nx w x o
  reg : ∀ x, ∃ m, m ≤ len ∧ xr x = (g m).regs.get x ∧ (∀ t, t < len → TmR all t x → (t < m ↔ D t)) ∧ (m = 0 ∨ ∃ t, m = t + 1 ∧ t < len ∧ TmR all t x) ∧ ∀ v, xr x = some v → ∃ u, a.tmps[x]? = some u ∧ Rv ρ (g m).nx v u
  sep : ∀ x o x' o', xh x = some o → xh x' = some o' → x ≠ x' → ∀ L L', ρ x = some L → ρ x' = some L' → L.b ≠ L'.b
  blk : ∀ x L, ρ x = some L → L.b < w.heap.size
  dom : ∀ x L, ρ x = some L → x < (g 0).nx ∨ ∃ t, t < len ∧ D t ∧ Nw g t x
  size : a.tmps.size = (g 0).nt
  df : RvD ρ (g 0).nx (g 0).df a.defers
  ag : agree (g 0).nx ρ0 ρ
  fr : Fr (Own ρ0 (g 0).h.get (g 0).bar) w0 (Own ρ xh (g 0).bar) w
  cb : ∀ j, j < len → fp j = .all → D j → ∀ x o, (g (j + 1)).h.get x = some o → x < (g (j + 1)).nx

variable {ρ0 ρ : Nm} {w0 w : World} {D : Nat → Prop} {xh : Nat → Option O} {xr : Nat → Option V} {a : Act}

/-- What is looked at is as it was in the text's order. -/
theorem DInv.memAt (hT : Tr E ih all ms dm len g fp recs) (hl : len = all.length) (hI : DInv ρ0 w0 all len g fp D ρ xh xr a w) (hD : ∀ a b, D a → Cl ms a b → D b) {i : Nat} (hi : ¬ D i) (hil : i < len) (hcl : ∀ b, Cl ms i b → D b) {x : Nat} (hR : Rm ms g fp i x) :
    xh x = (g i).h.get x ∧ ∃ m, m ≤ i ∧ ∀ o, xh x = some o → x < (g m).nx ∧ ObjOk ρ (g m).nx w x o := by
  obtain ⟨m, h1, h2, h3, h4, h5⟩ := hI.mem x
  have hA := claimA (fun j i hj hi => (memT hT hl hj hi).2.1) (fun j i hj hi => (memT hT hl hj hi).2.2) hD hi hil hcl hR h3
  have same : ∀ t, t < len → ¬ Tm g fp t x → (g (t + 1)).h.get x = (g t).h.get x := fun t ht hn => by
    obtain ⟨o, _, hs⟩ := hT.at hl ht
    exact hs.same x hn
  have e := sameRange' (g := fun k => (g k).h.get x) same h1 (Nat.le_of_lt hil) hA
  refine ⟨h2.trans e, m, ?_, h5⟩
  rcases h4 with rfl | ⟨t, rfl, ht, htx⟩
  · omega
  · have := (hA t ht htx).1 (Nat.lt_succ_self t); omega

theorem DInv.regAt (hp : PrepOk all ms dm) (hT : Tr E ih all ms dm len g fp recs) (hl : len = all.length) (hI : DInv ρ0 w0 all len g fp D ρ xh xr a w) (hD : ∀ a b, D a → Cl ms a b → D b) {i : Nat} (hi : ¬ D i) (hil : i < len) (hcl : ∀ b, Cl ms i b → D b) {x : Nat} (hR : RdR ms dm i x) {v : V}
    (hv : (g i).regs.get x = some v) : ∃ m u, m ≤ i ∧ a.tmps[x]? = some u ∧ Rv ρ (g m).nx v u := by
  obtain ⟨m, h1, h2, h3, h4, h5⟩ := hI.reg x
  have hA := claimA (tch := TmR all) (fun j i hj _ => regT2 hp hj) (fun j i hj _ => regT3 hp hj) hD hi hil hcl hR h3
  have same : ∀ t, t < len → ¬ TmR all t x → (g (t + 1)).regs.get x = (g t).regs.get x := fun t ht hn => by
    obtain ⟨o, ho, hs⟩ := hT.at hl ht
    exact hs.sameR ho x hn
  have e := sameRange' (g := fun k => (g k).regs.get x) same h1 (Nat.le_of_lt hil) hA
  obtain ⟨u, h6, h7⟩ := h5 v (by rw [h2, e, hv])
  refine ⟨m, u, ?_, h6, h7⟩
  rcases h4 with rfl | ⟨t, rfl, ht, htx⟩
  · omega
  · have := (hA t ht htx).1 (Nat.lt_succ_self t); omega

theorem getD_ok {regs : T V} {i cl t : Nat} (hcl : ms.get i = some cl) {v : V} (h : getD regs ms dm i cl t = some v) : regs.get t = some v ∧ RdR ms dm i t := by
  unfold getD at h
  split at h
  · rename_i hn; exact ⟨h, .inl hn⟩
  · rename_i j hj
    split at h
    · rename_i hb
      exact ⟨h, .inr ⟨j, hj, .inl ⟨cl, hcl, by rw [← bit_eq]; exact hb⟩⟩⟩
    · split at h
      · rename_i m hm
        split at h
        · rename_i hb
          exact ⟨h, .inr ⟨j, hj, .inr ⟨m, hm, by rw [← bit_eq]; exact hb⟩⟩⟩
        · cases h
      · cases h

/-- The slots behind an operation. -/
theorem DInv.regStep (hp : PrepOk all ms dm) (hI : DInv ρ0 w0 all len g fp D ρ xh xr a w) (hD : ∀ a b, D a → Cl ms a b → D b) {i : Nat} (hi : ¬ D i) (hil : i < len) (hcl : ∀ b, Cl ms i b → D b) {o : Oper} (ho : all[i]? = some o)
    {v : V} {u : Value} {ρ' : Nm} (hr : ∀ x L, ρ x = some L → ρ' x = some L) (hv : Rv ρ' (g (i + 1)).nx v u) (hg : (g (i + 1)).regs = upD (g i).regs o.dst v) (hd : ∀ d, o.dst = some d → d < (g 0).nt) :
    ∀ x, ∃ m, m ≤ len ∧ (if o.dst = some x then some v else xr x) = (g m).regs.get x ∧ (∀ t, t < len → TmR all t x → (t < m ↔ (D t ∨ t = i))) ∧ (m = 0 ∨ ∃ t, m = t + 1 ∧ t < len ∧ TmR all t x) ∧
      ∀ v', (if o.dst = some x then some v else xr x) = some v' → ∃ u', (a.put o.dst u).tmps[x]? = some u' ∧ Rv ρ' (g m).nx v' u' := by
  intro x
  by_cases hx : o.dst = some x
  · have ht : TmR all i x := ⟨o, ho, hx⟩
    refine ⟨i + 1, by omega, ?_, claimB (fun j i hj _ => regT1 hp hj) hD hi hil hcl ht, .inr ⟨i, rfl, hil, ht⟩, fun v' hv' => ?_⟩
    · rw [if_pos hx, hg, hx, upD, T.get_up, if_pos rfl]
    · rw [if_pos hx] at hv'
      cases hv'
      refine ⟨u, ?_, hv⟩
      rw [hx]
      simp [Act.put, hI.size, hd x hx]
  · obtain ⟨m, h1, h2, h3, h4, h5⟩ := hI.reg x
    have hn : ¬ TmR all i x := fun ⟨o', ho', hd'⟩ => by rw [ho] at ho'; cases ho'; exact hx hd'
    refine ⟨m, h1, by rw [if_neg hx]; exact h2, fun t ht htx => ?_, h4, fun v' hv' => ?_⟩
    · rw [h3 t ht htx]
      exact ⟨.inl, fun h => h.resolve_right (fun e => by subst e; exact hn htx)⟩
    · rw [if_neg hx] at hv'
      obtain ⟨u', h6, h7⟩ := h5 v' hv'
      refine ⟨u', ?_, Rv.ext (Nat.le_refl _) (fun i L _ h => hr i L h) _ _ h7⟩
      cases hdst : o.dst with
      | none => exact h6
      | some d =>
        simp only [Act.put]
        rw [Array.getElem?_setIfInBounds_ne (fun e => hx (by rw [hdst, e]))]
        exact h6
end
end CX

/-
  CX: drawn regions: one operation; the walk.
-/
namespace CX
open Go

section
variable {P : Program} {E : Env} {ih : IH} {all : List Oper} {ms dm : T Nat} {g : Nat → St} {fp : Nat → Fp} {recs : List Rc} {len : Nat}
variable {ρ0 ρ : Nm} {w0 w : World} {D : Nat → Prop} {xh : Nat → Option O} {xr : Nat → Option V} {a : Act}

theorem const_of (hT : Tr E ih all ms dm len g fp recs) (hl : len = all.length) : ∀ i, i ≤ len → (g i).bar = (g 0).bar ∧ (g i).nt = (g 0).nt ∧ (g i).df = (g 0).df
  | 0, _ => ⟨rfl, rfl, rfl⟩
  | i + 1, h => by
    obtain ⟨o, _, hs⟩ := hT.at hl (i := i) (by omega)
    obtain ⟨h1, h2, h3⟩ := const_of hT hl i (by omega)
    exact ⟨hs.bar.trans h1, hs.nt.trans h2, hs.df.trans h3⟩

theorem DInv.bound (hT : Tr E ih all ms dm len g fp recs) (hl : len = all.length) (hI : DInv ρ0 w0 all len g fp D ρ xh xr a w) (h0 : ∀ x o, (g 0).h.get x = some o → x < (g 0).nx) :
    ∀ i, i ≤ len → (∀ j, j < i → fp j = .all → D j) → ∀ x o, (g i).h.get x = some o → x < (g i).nx
  | 0, _, _, x, o, hx => h0 x o hx
  | i + 1, hi, hj, x, o, hx => by
    obtain ⟨oo, _, hs⟩ := hT.at hl (i := i) (by omega)
    by_cases ht : Tm g fp i x
    · have hmono := hs.mono
      rcases ht with ht | ht
      · unfold Wm at ht
        split at ht
        · rename_i hf
          exact hI.cb i (by omega) hf (hj i (by omega) hf) x o hx
        · exact ht.elim
        · rename_i F wr hf
          have := hs.low F wr hf x ht.2.1
          omega
      · exact ht.2
    · rw [hs.same x ht] at hx
      have := DInv.bound hT hl hI h0 i (by omega) (fun j hji => hj j (by omega)) x o hx
      have := hs.mono
      omega

theorem wantB_ok (hp : PrepOk all ms dm) (hT : Tr E ih all ms dm len g fp recs) (hl : len = all.length) (hI : DInv ρ0 w0 all len g fp D ρ xh xr a w) (hD : ∀ a b, D a → Cl ms a b → D b) {i : Nat} (hi : ¬ D i) (hil : i < len) (hcl : ∀ b, Cl ms i b → D b)
    {ops : Array Oper} (hall : all = ops.toList) {o : Oper} {cl : Nat} (hc : ms.get i = some cl) {b : Bool} (h : wantB (g i).regs ms dm i cl all o = some b) : Region.wanted o (yielded ops a.tmps) = b := by
  subst hall
  unfold wantB at h
  split at h
  · rename_i hg
    simp only [Option.some.injEq] at h
    simp [Region.wanted, hg, h]
  · rename_i gd want hg
    split at h
    · rename_i og hog
      split at h
      · rename_i d hd
        rw [nth_eq, Array.getElem?_toList] at hog
        have hd' : (ops[gd]?).bind (·.dst) = some d := by simp [hog, hd]
        split at h
        · rename_i x hx
          obtain ⟨h1, h2⟩ := getD_ok hc hx
          obtain ⟨m, u, _, h3, h4⟩ := hI.regAt hp hT hl hD hi hil hcl h2 h1
          simp only [Rv] at h4
          subst h4
          have hw : Region.wanted o (yielded ops a.tmps) = (x == want) := by
            simp only [Region.wanted, hg, yielded, hd', Option.bind_some, h3]
            cases x <;> cases want <;> rfl
          rw [hw]
          split at h
          · simp only [Option.some.injEq] at h; subst h; rfl
          · simp only [Option.some.injEq] at h; subst h; rfl
          · rename_i h5 h6
            simp only [Option.some.injEq] at h
            subst h
            cases x <;> cases want <;> first | rfl | exact (h5 rfl rfl).elim | exact (h6 rfl rfl).elim
        · rename_i hx
          obtain ⟨h1, h2⟩ := getD_ok hc hx
          obtain ⟨m, u, _, h3, h4⟩ := hI.regAt hp hT hl hD hi hil hcl h2 h1
          simp only [Rv] at h4
          obtain ⟨y, hy, rfl⟩ := h4
          simp only [Option.some.injEq] at h
          subst h
          simp only [Region.wanted, hg, yielded, hd', Option.bind_some, h3]
          cases want <;> rfl
        · cases h
      · cases h
    · cases h

theorem evD_ok (hp : PrepOk all ms dm) (hT : Tr E ih all ms dm len g fp recs) (hl : len = all.length) (hI : DInv ρ0 w0 all len g fp D ρ xh xr a w) (hD : ∀ a b, D a → Cl ms a b → D b) {i : Nat} (hi : ¬ D i) (hil : i < len) (hcl : ∀ b, Cl ms i b → D b)
    {cl : Nat} (hc : ms.get i = some cl) (x : Operand) (v : V) (h : evD (g i).regs ms dm i cl x = some v) : Rv (fun k => if k < (g i).nx then ρ k else none) (g i).nx v (a.eval x) := by
  cases x with
  | tmp t =>
    obtain ⟨h1, h2⟩ := getD_ok hc h
    obtain ⟨m, u, hm, h3, h4⟩ := hI.regAt hp hT hl hD hi hil hcl h2 h1
    have : a.eval (.tmp t) = u := by simp [Act.eval, Array.getD_eq_getD_getElem?, h3]
    rw [this]
    have hle := nx_le hT hl hm (Nat.le_of_lt hil)
    refine Rv.ext hle (fun k L hk hL => ?_) v u h4
    rw [if_pos (by omega)]; exact hL
  | const c => exact conv_ok h
  | func f =>
    simp only [evD, Option.some.injEq] at h
    subst h
    simp only [Rv]
    exact ⟨[], [], by simp [RvL], by simp [RvL], rfl⟩
  | «global» g => cases h

theorem put_tmps {dst : Option Nat} {u : Value} {n : Nat} (h : a.tmps.size = n) : (a.put dst u).tmps.size = n ∧ (a.put dst u).defers = a.defers := by
  cases dst with
  | none => exact ⟨h, rfl⟩
  | some d => exact ⟨by simp [Act.put, h], rfl⟩

/-- An operation that leaves memory alone. -/
theorem DInv.quiet (hp : PrepOk all ms dm) (hI : DInv ρ0 w0 all len g fp D ρ xh xr a w) (hD : ∀ a b, D a → Cl ms a b → D b) {i : Nat} (hi : ¬ D i) (hil : i < len) (hcl : ∀ b, Cl ms i b → D b)
    {o : Oper} (ho : all[i]? = some o) {v : V} {u : Value} (hv : Rv ρ (g (i + 1)).nx v u) (hg : (g (i + 1)).regs = upD (g i).regs o.dst v) (hd : ∀ d, o.dst = some d → d < (g 0).nt) (ht : Triv g fp i) :
    DInv ρ0 w0 all len g fp (fun t => D t ∨ t = i) ρ xh (fun x => if o.dst = some x then some v else xr x) (a.put o.dst u) w := by
  obtain ⟨hs1, hs2⟩ := put_tmps (dst := o.dst) (u := u) hI.size
  refine ⟨fun x => ?_, hI.regStep hp hD hi hil hcl ho (fun _ _ h => h) hv hg hd, hI.sep, hI.blk, fun x L hx => (hI.dom x L hx).imp id fun ⟨t, h1, h2, h3⟩ => ⟨t, h1, .inl h2, h3⟩, hs1, by rw [hs2]; exact hI.df, hI.ag, hI.fr, fun j hj hf hdj => ?_⟩
  · obtain ⟨m, h1, h2, h3, h4, h5⟩ := hI.mem x
    refine ⟨m, h1, h2, fun t htl htx => ?_, h4, h5⟩
    rw [h3 t htl htx]
    exact ⟨.inl, fun h => h.resolve_right fun e => by subst e; exact ht.not htx⟩
  · rcases hdj with hdj | rfl
    · exact hI.cb j hj hf hdj
    · rw [ht.1] at hf; cases hf

theorem barOf_facts {bar nx : Nat} {f : Fp} (h : bar ≤ nx) : bar ≤ barOf f bar nx ∧ barOf f bar nx ≤ nx := by
  cases f with
  | all => exact ⟨Nat.le_refl _, h⟩
  | q => exact ⟨h, Nat.le_refl _⟩
  | ls F wr => cases wr with
    | true => exact ⟨Nat.le_refl _, h⟩
    | false => exact ⟨h, Nat.le_refl _⟩

open Classical in
/-- **An operation that has to do with memory.** -/
theorem DInv.memo (hp : PrepOk all ms dm) (hT : Tr E ih all ms dm len g fp recs) (hl : len = all.length) (hI : DInv ρ0 w0 all len g fp D ρ xh xr a w) (hD : ∀ a b, D a → Cl ms a b → D b) {i : Nat} (hi : ¬ D i) (hil : i < len) (hcl : ∀ b, Cl ms i b → D b)
    {o : Oper} (ho : all[i]? = some o) {v : V} {u : Value} {hv h' : T O} {ρ' : Nm} {w' : World} (hview : ∀ x ob, hv.get x = some ob → xh x = some ob ∧ x < (g i).nx ∧ Rm ms g fp i x) (hm1 : ∀ x, Tm g fp i x → (g (i + 1)).h.get x = h'.get x)
    (hbar : (g 0).bar ≤ (g i).nx) (hmono : (g i).nx ≤ (g (i + 1)).nx) (hg : (g (i + 1)).regs = upD (g i).regs o.dst v) (hd : ∀ d, o.dst = some d → d < (g 0).nt) (hfb : (g i).bar = (g 0).bar)
    (hvu : Rv ρ' (g (i + 1)).nx v u) (hS' : HSat ρ' h'.get (g (i + 1)).nx w') (hag : agree (g i).nx (fun k => if k < (g i).nx then ρ k else none) ρ')
    (hfr : Fr (Own (fun k => if k < (g i).nx then ρ k else none) hv.get (barOf (fp i) (g 0).bar (g i).nx)) w (Own ρ' h'.get (barOf (fp i) (g 0).bar (g i).nx)) w') :
    ∃ ρ2 xh2 xr2, DInv ρ0 w0 all len g fp (fun t => D t ∨ t = i) ρ2 xh2 xr2 (a.put o.dst u) w' := by
  obtain ⟨hb1, hb2⟩ := barOf_facts (f := fp i) hbar
  have hi1 : i + 1 ≤ len := hil
  have h0i : (g 0).nx ≤ (g i).nx := nx_le hT hl (Nat.zero_le _) (Nat.le_of_lt hil)
  obtain ⟨ρ2, hρ2⟩ : ∃ ρ2 : Nm, ∀ x, ρ2 x = if x < (g i).nx then ρ x else if x < (g (i + 1)).nx then ρ' x else ρ x := ⟨_, fun _ => rfl⟩
  have hr : ∀ x L, ρ x = some L → ρ2 x = some L := by
    intro x L hx
    rw [hρ2]
    split
    · exact hx
    · split
      · exfalso
        rcases hI.dom x L hx with h | ⟨t, h1, h2, h3, h4⟩
        · omega
        · rcases Nat.lt_trichotomy t i with h | h | h
          · have := nx_le hT hl (a := t + 1) (b := i) (by omega) (by omega); omega
          · subst h; exact hi h2
          · have := nx_le hT hl (a := i + 1) (b := t) (by omega) (by omega); omega
      · exact hx
  have he : ∀ x, x < (g (i + 1)).nx → ρ2 x = ρ' x := by
    intro x hx
    rw [hρ2, if_pos hx]
    split
    · rename_i h
      have := hag x h
      simp only [if_pos h] at this
      exact this.symm
    · rfl
  have wm : ∀ x, barOf (fp i) (g 0).bar (g i).nx ≤ x → x < (g i).nx → Rm ms g fp i x → Tm g fp i x := by
    intro x hx hlt hR
    refine .inl ?_
    unfold Wm
    unfold Rm at hR
    rw [hfb]
    cases hf : fp i with
    | all => trivial
    | q => rw [hf] at hx; simp only [barOf] at hx; omega
    | ls F wr =>
      rw [hf] at hx hR
      cases wr with
      | true => simp only [barOf] at hx; exact ⟨rfl, hR, hx⟩
      | false => simp only [barOf] at hx; omega
  have tb : ∀ x, Tm g fp i x → fp i ≠ .all → barOf (fp i) (g 0).bar (g i).nx ≤ x := by
    intro x hx hne
    unfold Tm Wm at hx
    rw [hfb] at hx
    cases hf : fp i with
    | all => exact absurd hf hne
    | q =>
      rw [hf] at hx
      rcases hx with hx | hx
      · exact hx.elim
      · exact hx.1
    | ls F wr =>
      rw [hf] at hx
      rcases hx with hx | hx
      · obtain ⟨rfl, _, h3⟩ := hx
        exact h3
      · have := hx.1
        cases wr with
        | true => simp only [barOf]; omega
        | false => exact this
  have notOwn : ∀ x ob L, ¬ Tm g fp i x → xh x = some ob → ρ x = some L → ¬ Own (fun k => if k < (g i).nx then ρ k else none) hv.get (barOf (fp i) (g 0).bar (g i).nx) L.b := by
    rintro x ob L hnt hx hL ⟨id, o', L', h1, h2, h3, h4⟩
    obtain ⟨k1, k2, k3⟩ := hview id o' h2
    simp only [if_pos k2] at h3
    have hT' := wm id h1 k2 k3
    exact hI.sep id o' x ob k1 hx (fun e => by subst e; exact hnt hT') L' L h3 hL h4
  have keepB : ∀ x ob L, ¬ Tm g fp i x → xh x = some ob → ρ x = some L → w'.heap[L.b]? = w.heap[L.b]? := fun x ob L h1 h2 h3 => hfr.keep _ (hI.blk x L h3) (notOwn x ob L h1 h2 h3)
  have locOf : ∀ x ob L, xh x = some ob → ρ2 x = some L → ρ x = some L := by
    intro x ob L hx hL
    obtain ⟨m, _, _, _, _, h5⟩ := hI.mem x
    obtain ⟨L0, hL0⟩ := (h5 ob hx).2.loc
    have := hr x L0 hL0
    rw [hL] at this
    cases this
    exact hL0
  have newLt : ∀ x ob, h'.get x = some ob → x < (g (i + 1)).nx := fun x ob hx => (hS'.objs x ob hx).1
  have ownUp : ∀ b, Own (fun k => if k < (g i).nx then ρ k else none) hv.get (barOf (fp i) (g 0).bar (g i).nx) b → Own ρ xh (g 0).bar b := by
    rintro b ⟨id, o', L', h1, h2, h3, h4⟩
    obtain ⟨k1, k2, k3⟩ := hview id o' h2
    simp only [if_pos k2] at h3
    exact ⟨id, o', L', by omega, k1, h3, h4⟩
  have sepMix : ∀ x ob x' ob' L L', Tm g fp i x → ¬ Tm g fp i x' → h'.get x = some ob → xh x' = some ob' → ρ2 x = some L → ρ2 x' = some L' → L.b ≠ L'.b := by
    intro x ob x' ob' L L' ht hnt hx hx' hL hL' e
    have hne : fp i ≠ .all := fun hf => hnt (by refine .inl ?_; unfold Wm; rw [hf]; trivial)
    rw [he x (newLt x ob hx)] at hL
    have hL2 := locOf x' ob' L' hx' hL'
    rcases hfr.own L.b ⟨x, ob, L, tb x ht hne, hx, hL, rfl⟩ with h | h
    · rw [e] at h; exact notOwn x' ob' L' hnt hx' hL2 h
    · have := hI.blk x' L' hL2; omega
  obtain ⟨hs1, hs2⟩ := put_tmps (dst := o.dst) (u := u) hI.size
  refine ⟨ρ2, fun x => if Tm g fp i x then h'.get x else xh x, fun x => if o.dst = some x then some v else xr x, fun x => ?_, hI.regStep hp hD hi hil hcl ho hr ?_ hg hd, fun x ob x' ob' hx hx' hne L L' hL hL' => ?_, fun x L hx => ?_, fun x L hx => ?_, hs1, ?_, ?_, ?_, fun j hj hf hdj => ?_⟩
  · by_cases ht : Tm g fp i x
    · refine ⟨i + 1, hi1, ?_, claimB (fun j i hj hi => (memT hT hl hj hi).1) hD hi hil hcl ht, .inr ⟨i, rfl, hil, ht⟩, fun ob hob => ?_⟩
      · rw [if_pos ht, hm1 x ht]
      · rw [if_pos ht] at hob
        obtain ⟨k1, k2⟩ := hS'.objs x ob hob
        exact ⟨k1, ObjOk.ext k1 (Nat.le_refl _) (fun k L hk hL => by rw [he k hk]; exact hL) (fun _ _ => rfl) ob k2⟩
    · obtain ⟨m, h1, h2, h3, h4, h5⟩ := hI.mem x
      refine ⟨m, h1, by rw [if_neg ht]; exact h2, fun t htl htx => ?_, h4, fun ob hob => ?_⟩
      · rw [h3 t htl htx]
        exact ⟨.inl, fun h => h.resolve_right fun e => by subst e; exact ht htx⟩
      · rw [if_neg ht] at hob
        obtain ⟨k1, k2⟩ := h5 ob hob
        exact ⟨k1, ObjOk.ext k1 (Nat.le_refl _) (fun k L _ hL => hr k L hL) (fun L hL => keepB x ob L ht hob hL) ob k2⟩
  · exact Rv.ext (Nat.le_refl _) (fun k L hk hL => by rw [he k hk]; exact hL) _ _ hvu
  · split at hx
    · rename_i ht
      split at hx'
      · rw [he x (newLt x ob hx)] at hL
        rw [he x' (newLt x' ob' hx')] at hL'
        exact hS'.sep x ob x' ob' hx hx' hne L L' hL hL'
      · rename_i ht'
        exact sepMix x ob x' ob' L L' ht ht' hx hx' hL hL'
    · rename_i ht
      split at hx'
      · rename_i ht'
        exact fun e => sepMix x' ob' x ob L' L ht' ht hx' hx hL' hL e.symm
      · exact hI.sep x ob x' ob' hx hx' hne L L' (locOf x ob L hx hL) (locOf x' ob' L' hx' hL')
  · have hsz := hfr.size
    rw [hρ2] at hx
    split at hx
    · have := hI.blk x L hx; omega
    · split at hx
      · exact hS'.blk x L hx
      · have := hI.blk x L hx; omega
  · rw [hρ2] at hx
    split at hx
    · exact (hI.dom x L hx).imp id fun ⟨t, h1, h2, h3⟩ => ⟨t, h1, .inl h2, h3⟩
    · rename_i hx1
      split at hx
      · rename_i hx2
        exact .inr ⟨i, hil, .inr rfl, Nat.le_of_not_lt hx1, hx2⟩
      · exact (hI.dom x L hx).imp id fun ⟨t, h1, h2, h3⟩ => ⟨t, h1, .inl h2, h3⟩
  · rw [hs2]; exact hI.df.ext (Nat.le_refl _) (fun k L _ hL => hr k L hL)
  · intro x hx
    rw [hρ2, if_pos (by omega)]
    exact hI.ag x hx
  · refine hI.fr.trans ⟨hfr.os, hfr.tape, hfr.output, hfr.size, fun b hb hno => hfr.keep b hb fun h => hno (ownUp b h), ?_⟩
    rintro b ⟨x, ob, L, hbx, hx, hL, rfl⟩
    simp only at hx
    split at hx
    · rename_i ht
      rw [he x (newLt x ob hx)] at hL
      have hbv : barOf (fp i) (g 0).bar (g i).nx ≤ x := by
        by_cases hf : fp i = .all
        · rw [hf]; exact hbx
        · exact tb x ht hf
      exact (hfr.own L.b ⟨x, ob, L, hbv, hx, hL, rfl⟩).imp (ownUp _) id
    · exact .inl ⟨x, ob, L, hbx, hx, locOf x ob L hx hL, rfl⟩
  · rcases hdj with hdj | rfl
    · exact hI.cb j hj hf hdj
    · intro x ob hx
      rw [hm1 x (by refine .inl ?_; unfold Wm; rw [hf]; trivial)] at hx
      exact newLt x ob hx
end
end CX

/-
  CX: drawn regions: the walk.
-/
namespace CX
open Go

theorem bindsA_eq (e : Edge) : Region.binds .any e = bindsA e := by
  unfold Region.binds bindsA
  cases e.ground <;> rfl

def unl : List Bool → Nat
  | [] => 0
  | true :: r => unl r
  | false :: r => unl r + 1

theorem unl_set : ∀ (l : List Bool) (i : Nat), l[i]? = some false → unl (l.set i true) + 1 = unl l
  | [], i, h => by simp at h
  | b :: r, 0, h => by
    simp only [List.getElem?_cons_zero, Option.some.injEq] at h
    subst h
    simp [unl]
  | b :: r, i + 1, h => by
    have := unl_set r i (by simpa using h)
    cases b <;> simp only [List.set_cons_succ, unl] <;> omega

theorem unl_zero : ∀ (l : List Bool), unl l = 0 → ∀ i : Nat, l[i]? ≠ some false
  | [], _, i, h => by simp at h
  | true :: r, h, 0, h' => by simp at h'
  | true :: r, h, i + 1, h' => unl_zero r (by simpa [unl] using h) i (by simpa using h')
  | false :: r, h, i, h' => by simp [unl] at h

theorem unl_rep : ∀ n, unl (List.replicate n false) = n
  | 0 => rfl
  | n + 1 => by simp [List.replicate_succ, unl, unl_rep n]

theorem getD_false_iff {l : Array Bool} {i : Nat} : l.getD i true = false ↔ l.toList[i]? = some false := by
  rw [Array.getD_eq_getD_getElem?, ← Array.getElem?_toList]
  cases h : l.toList[i]? with
  | none => simp
  | some b => simp

theorem getD_true_iff {l : Array Bool} {i : Nat} : Array.getD l i false = true ↔ l[i]? = some true := by
  rw [Array.getD_eq_getD_getElem?]
  cases h : l[i]? with
  | none => simp
  | some b => simp

section
variable {P : Program} {E : Env} {ih : IH} {ms dm : T Nat} {g : Nat → St} {fp : Nat → Fp} {recs : List Rc} {len : Nat} {ops : Array Oper}
variable {ρ0 ρ : Nm} {w0 w : World} {D : Nat → Prop} {xh : Nat → Option O} {xr : Nat → Option V} {a : Act}

/-- All are done: the state is the text's last. -/
theorem DInv.last (hT : Tr E ih ops.toList ms dm len g fp recs) (hl : len = ops.toList.length) (hI : DInv ρ0 w0 ops.toList len g fp D ρ xh xr a w) (hall : ∀ t, t < len → D t) : Lands ρ0 (g 0) w0 (g len) a w ρ := by
  obtain ⟨hb, hn, hdf⟩ := const_of hT hl len (Nat.le_refl _)
  have hle : ∀ {m}, m ≤ len → (g m).nx ≤ (g len).nx := fun h => nx_le hT hl h (Nat.le_refl _)
  have hmem : xh = (g len).h.get := by
    funext x
    obtain ⟨m, h1, h2, h3, _⟩ := hI.mem x
    rw [h2]
    refine sameRange' (tch := Tm g fp) (x := x) (g := fun k => (g k).h.get x) (fun t ht hn => ?_) h1 (Nat.le_refl _) (fun t ht htx => ?_)
    · obtain ⟨o, _, hs⟩ := hT.at hl ht
      exact hs.same x hn
    · rw [h3 t ht htx]; exact ⟨fun _ => ht, fun _ => hall t ht⟩
  have hreg : xr = (g len).regs.get := by
    funext x
    obtain ⟨m, h1, h2, h3, _⟩ := hI.reg x
    rw [h2]
    refine sameRange' (tch := TmR ops.toList) (x := x) (g := fun k => (g k).regs.get x) (fun t ht hn => ?_) h1 (Nat.le_refl _) (fun t ht htx => ?_)
    · obtain ⟨o, ho, hs⟩ := hT.at hl ht
      exact hs.sameR ho x hn
    · rw [h3 t ht htx]; exact ⟨fun _ => ht, fun _ => hall t ht⟩
  subst hmem hreg
  refine ⟨⟨⟨fun x o hx => ?_, hI.sep, fun x hx => ?_, hI.blk⟩, by rw [hn]; exact hI.size, fun t v hv => ?_, ?_⟩, hI.ag, hle (Nat.zero_le _), hn, hb, by rw [hb]; exact hI.fr⟩
  · obtain ⟨m, h1, _, _, _, h5⟩ := hI.mem x
    obtain ⟨h6, h7⟩ := h5 o hx
    have := hle h1
    exact ⟨by omega, ObjOk.ext h6 this (fun _ _ _ h => h) (fun _ _ => rfl) o h7⟩
  · cases h : ρ x with
    | none => rfl
    | some L =>
      exfalso
      rcases hI.dom x L h with h | ⟨t, h1, _, _, h4⟩
      · have := hle (Nat.zero_le len); omega
      · have := hle (m := t + 1) (by omega); omega
  · obtain ⟨m, h1, _, _, _, h5⟩ := hI.reg t
    obtain ⟨u, h6, h7⟩ := h5 v hv
    exact ⟨u, h6, Rv.ext (hle h1) (fun _ _ _ h => h) _ _ h7⟩
  · rw [hdf]
    exact hI.df.ext (hle (Nat.zero_le _)) (fun _ _ _ h => h)

variable (hE : EnvOk E P) (hI' : IhOk P ih)
include hE hI'

theorem DInv.step (hp : PrepOk ops.toList ms dm) (hT : Tr E ih ops.toList ms dm len g fp recs) (hl : len = ops.toList.length) (h0 : ∀ x o, (g 0).h.get x = some o → x < (g 0).nx) (hI : DInv ρ0 w0 ops.toList len g fp D ρ xh xr a w) (hD : ∀ a b, D a → Cl ms a b → D b)
    {i : Nat} (hi : ¬ D i) (hil : i < len) (hcl : ∀ b, Cl ms i b → D b) {ro : Option Nat} {K : Act → World → Prop} {Q : Exit → Act → World → Prop}
    (hK : ∀ ρ' xh' xr' a' w', DInv ρ0 w0 ops.toList len g fp (fun t => D t ∨ t = i) ρ' xh' xr' a' w' → K a' w') : wpOpIn (Fw ro) 0 P ops Q i K a w := by
  obtain ⟨o, ho, hs⟩ := hT.at hl hil
  have ho' : ops[i]? = some o := by simpa using ho
  obtain ⟨hfb, hfn, _⟩ := const_of hT hl i (Nat.le_of_lt hil)
  obtain ⟨_, _, _, cl, v, hc, hg, hd, hex⟩ := hs
  rw [hfn] at hd
  unfold wpOpIn
  rw [ho']
  simp only
  rcases hex with ⟨hw, rfl, _, ht⟩ | ⟨hw, hcls, ⟨r0, hr0, hv0⟩, _, ht⟩ | ⟨hw, ⟨hv, h', r0, hr0, hv0, hview, hm1, _⟩, hbar, hmono, hlow⟩
  · rw [wantB_ok hp hT hl hI hD hi hil hcl rfl hc hw, if_neg (by simp)]
    exact ⟨fun _ _ => trivial, hK _ _ _ _ _ (hI.quiet hp hD hi hil hcl ho (u := undef) (by simp only [Rv]; exact ⟨[], by simp [RvL], rfl⟩) hg hd ht)⟩
  · rw [wantB_ok hp hT hl hI hD hi hil hcl rfl hc hw, if_pos rfl]
    have hnd : ∀ c, o.op ≠ .defer c := fun c h => by rw [h] at hcls; simp [clsOf] at hcls
    obtain ⟨v', u, h1, h2, h3⟩ := opP_ok hE (ρe := a.eval) (fun x _ v hv => evD_ok hp hT hl hI hD hi hil hcl hc x v hv) hr0
    have := hv0 _ h1
    subst this
    refine ⟨fun _ _ => trivial, ?_⟩
    show o.uponIn (Fw ro) 0 P a K Q ((o.semAt ro a.eval).run P w)
    rw [Oper.semAt_eq _ _ _ hnd, h3 w, Oper.uponIn_value]
    refine hK _ _ _ _ _ (hI.quiet hp hD hi hil hcl ho (v := v') ?_ hg hd ht)
    rw [ht.2]
    refine Rv.ext (Nat.le_refl _) (fun k L hk hL => ?_) _ _ h2
    rw [if_pos hk] at hL; exact hL
  · rw [wantB_ok hp hT hl hI hD hi hil hcl rfl hc hw, if_pos rfl]
    have hvw : ∀ x ob, hv.get x = some ob → xh x = some ob ∧ x < (g i).nx ∧ Rm ms g fp i x ∧ ∃ m, m ≤ i ∧ x < (g m).nx ∧ ObjOk ρ (g m).nx w x ob := by
      intro x ob hx
      obtain ⟨h1, h2⟩ := hview x ob hx
      have hR : Rm ms g fp i x := by
        refine h2 fun hq => ?_
        refine hI.bound hT hl h0 i (Nat.le_of_lt hil) (fun j hj hf => ?_) x ob h1
        rcases hT.pr j i hj hil with h | h | h | h
        · exact hcl j h
        · rw [h.1] at hq; cases hq
        · rw [h.1] at hf; cases hf
        · unfold pairOk at h; rw [hq, hf] at h; cases h
      obtain ⟨h3, m, h4, h5⟩ := hI.memAt hT hl hD hi hil hcl hR
      rw [h1] at h3
      obtain ⟨h6, h7⟩ := h5 ob h3
      have := nx_le hT hl h4 (Nat.le_of_lt hil)
      exact ⟨h3, by omega, hR, m, h4, h6, h7⟩
    have hS : HSat (fun k => if k < (g i).nx then ρ k else none) hv.get (g i).nx w := by
      refine ⟨fun x ob hx => ?_, fun x ob x' ob' hx hx' hne L L' hL hL' => ?_, fun x hx => if_neg (by omega), fun x L hL => ?_⟩
      · obtain ⟨_, h1, _, m, h2, h3, h4⟩ := hvw x ob hx
        have hle := nx_le hT hl h2 (Nat.le_of_lt hil)
        exact ⟨h1, ObjOk.ext h3 hle (fun k L hk hL => by rw [if_pos (by omega)]; exact hL) (fun _ _ => rfl) ob h4⟩
      · rw [if_pos (hvw x ob hx).2.1] at hL
        rw [if_pos (hvw x' ob' hx').2.1] at hL'
        exact hI.sep x ob x' ob' (hvw x ob hx).1 (hvw x' ob' hx').1 hne L L' hL hL'
      · split at hL
        · exact hI.blk x L hL
        · cases hL
    obtain ⟨v', g', n', h1, h2⟩ := opA_ok hI' hE hS (a := a) (fun x _ v hv => evD_ok hp hT hl hI hD hi hil hcl hc x v hv) hr0
    obtain ⟨rfl, rfl, rfl⟩ := hv0 _ _ _ h1
    refine h2 ro _ _ fun u ρ' w' e1 e2 e3 _ e5 => ?_
    rw [hfb] at e5 hbar
    obtain ⟨ρ2, xh2, xr2, hI2⟩ := hI.memo hp hT hl hD hi hil hcl ho (u := u) (fun x ob hx => ⟨(hvw x ob hx).1, (hvw x ob hx).2.1, (hvw x ob hx).2.2.1⟩) hm1 hbar hmono hg hd hfb e1 e2 e3 e5
    exact hK _ _ _ _ _ hI2

theorem DInv.walk (hp : PrepOk ops.toList ms dm) (hT : Tr E ih ops.toList ms dm len g fp recs) (hl : len = ops.toList.length) (h0 : ∀ x o, (g 0).h.get x = some o → x < (g 0).nx) {ro : Option Nat} {Q : Exit → Act → World → Prop}
    (hQ : ∀ ρ a w, Lands ρ0 (g 0) w0 (g len) a w ρ → Q .normal a w) : ∀ (fuel : Nat) (listed : Array Bool) (ρ : Nm) (xh : Nat → Option O) (xr : Nat → Option V) (a : Act) (w : World), listed.size = ops.size → unl listed.toList = fuel →
    DInv ρ0 w0 ops.toList len g fp (fun t => listed[t]? = some true) ρ xh xr a w → (∀ a b, listed[a]? = some true → Cl ms a b → listed[b]? = some true) → wpAnyIn (Fw ro) 0 P .any ops Q fuel listed a w := by
  have hlen : len = ops.size := by simpa using hl
  -- nothing is left if nothing is ready
  have empty : ∀ listed : Array Bool, listed.size = ops.size → Region.ready .any ops listed = [] → ∀ t, t < len → listed[t]? = some true := by
    intro listed hsz hr t
    induction t using Nat.strongRecOn with
    | _ t ihh =>
      intro ht
      have hlt : t < listed.size := by omega
      cases hc : listed.getD t true with
      | true =>
        rw [Array.getD_eq_getD_getElem?] at hc
        simp only [hlt, Array.getElem?_eq_getElem, Option.getD_some] at hc
        simp [hlt, hc]
      | false =>
        exfalso
        have hm : t ∈ Region.ready .any ops listed := by
          rw [mem_ready]
          obtain ⟨o, ho⟩ : ∃ o, ops[t]? = some o := ⟨ops[t]'(by omega), by simp [show t < ops.size by omega]⟩
          refine ⟨hc, o, ho, fun e he hbe => ?_⟩
          obtain ⟨m, _, _, hb⟩ := hp.hm t o (by simpa using ho)
          have hlt := hb e (by simpa using he) (by rw [← bindsA_eq]; exact hbe)
          exact getD_true_iff.2 (ihh e.on hlt (by omega))
        rw [hr] at hm
        cases hm
  intro fuel
  induction fuel with
  | zero =>
    intro listed ρ xh xr a w hsz hu hI _
    have hr : Region.ready .any ops listed = [] := by
      cases h : Region.ready .any ops listed with
      | nil => rfl
      | cons x xs =>
        exfalso
        have hm : x ∈ Region.ready .any ops listed := by rw [h]; simp
        rw [mem_ready] at hm
        exact unl_zero _ hu x (getD_false_iff.1 hm.1)
    exact ⟨hr, hQ _ _ _ (hI.last hT hl (empty listed hsz hr))⟩
  | succ fuel ihf =>
    intro listed ρ xh xr a w hsz hu hI hD
    refine ⟨fun hr => hQ _ _ _ (hI.last hT hl (empty listed hsz hr)), fun i hi => ?_⟩
    rw [mem_ready] at hi
    obtain ⟨hif, o, ho, hpre⟩ := hi
    have hil : i < len := by rw [hlen]; exact (Array.getElem?_eq_some_iff.1 ho).1
    have hfl : listed.toList[i]? = some false := getD_false_iff.1 hif
    have hni : ¬ (listed[i]? = some true) := fun h => by rw [← Array.getElem?_toList, hfl] at h; cases h
    have hcl : ∀ b, Cl ms i b → listed[b]? = some true := by
      rintro b ⟨m, hm, hb⟩
      obtain ⟨m', h1, h2, _⟩ := hp.hm i o (by simpa using ho)
      rw [hm] at h1; cases h1
      obtain ⟨e, he, hbe, h⟩ := h2 b hb
      have hon := getD_true_iff.1 (hpre e (by simpa using he) (by rw [bindsA_eq]; exact hbe))
      rcases h with rfl | ⟨me, hme, hb'⟩
      · exact hon
      · exact hD e.on b hon ⟨me, hme, hb'⟩
    have hset : ∀ t, (listed.setIfInBounds i true)[t]? = some true ↔ (listed[t]? = some true ∨ t = i) := by
      intro t
      rw [Array.getElem?_setIfInBounds]
      by_cases h : i = t
      · subst h
        rw [if_pos rfl, if_pos (by omega)]
        simp
      · rw [if_neg h]
        exact ⟨.inl, fun hh => hh.resolve_right fun e => h e.symm⟩
    refine hI.step hE hI' hp hT hl h0 hD hni hil hcl fun ρ' xh' xr' a' w' hI2 => ?_
    refine ihf _ ρ' xh' xr' a' w' (by simpa using hsz) ?_ ?_ ?_
    · have := unl_set _ _ hfl
      rw [Array.toList_setIfInBounds]
      omega
    · have e : (fun t => (listed.setIfInBounds i true)[t]? = some true) = (fun t => listed[t]? = some true ∨ t = i) := funext fun t => propext (hset t)
      rw [e]; exact hI2
    · intro x y hx hy
      rw [hset] at hx ⊢
      rcases hx with hx | rfl
      · exact .inl (hD x y hx hy)
      · exact .inl (hcl y hy)

/-- **A region that draws its order.** -/
theorem draw_ok {ρ : Nm} {S : St} {a : Act} {w : World} (hS : Sat ρ S a w) {id : Nat} {r : Ex × St}
    (h : (prep ops.toList 0 .e .e fun ms dm => match drawGo E ih ops.toList ms dm ops.toList 0 [] S with
      | some S => some (Ex.normal, S)
      | none => none) = some r) {ro : Option Nat} : ∃ S', r = (.normal, S') ∧ (Code.region id ops true).wpIn (Fw ro) 0 P (CPost ρ S w .normal S') a w := by
  obtain ⟨ms, dm, h, hp⟩ := prep_ok ops.toList [] .e .e (by simpa using h) ⟨by simp, fun i m j h => by simp [T.get] at h, by simp, fun i m h => by simp [T.get] at h⟩
  simp only [List.nil_append] at hp
  split at h
  · rename_i S1 hd
    simp only [Option.some.injEq] at h
    subst h
    refine ⟨S1, rfl, wpIn_region_any hE.mixed ?_⟩
    obtain ⟨g, fp, recs, hT, hg0, hge⟩ := drawGo_ok (E := E) (ih := ih) (all := ops.toList) (ms := ms) (dm := dm) ops.toList 0 [] (fun _ => S) (fun _ => .all) (fun j => by simp) hd
      ⟨fun j o hj => by omega, fun r hr => by simp at hr, fun j hj => by omega, fun a b _ hb => by omega⟩
    have e0 : g 0 = S := hg0 0 (Nat.le_refl _)
    rw [Nat.zero_add] at hT hge
    have hS1 : Sat ρ S a { w with drawn := w.drawn + 1 } := ⟨hS.hs.world rfl, hS.size, hS.regs, hS.df⟩
    refine DInv.walk hE hI' (ρ0 := ρ) (w0 := w) hp hT rfl (by rw [e0]; exact fun x o hx => (hS.hs.objs x o hx).1) (fun ρ' a' w' hL => ?_) ops.size _ ρ S.h.get S.regs.get a _ (by simp) (by simp [unl_rep]) ?_ ?_
    · rw [hge, e0] at hL
      exact ⟨rfl, ρ', hL⟩
    · have nn : ∀ t : Nat, ¬ ((Array.replicate ops.size false)[t]? = some true) := by
        intro t h
        rw [Array.getElem?_replicate] at h
        split at h <;> cases h
      refine ⟨fun x => ⟨0, Nat.zero_le _, by rw [e0], fun t _ _ => ⟨fun h => by omega, fun h => absurd h (nn t)⟩, .inl rfl, fun o ho => by rw [e0]; exact hS1.hs.objs x o ho⟩,
        fun x => ⟨0, Nat.zero_le _, by rw [e0], fun t _ _ => ⟨fun h => by omega, fun h => absurd h (nn t)⟩, .inl rfl, fun v hv => by rw [e0]; exact hS1.regs x v hv⟩,
        hS1.hs.sep, hS1.hs.blk, fun x L hx => .inl ?_, by rw [e0]; exact hS1.size, by rw [e0]; exact hS1.df, by rw [e0]; exact agree.refl _ _, by rw [e0]; exact ⟨rfl, rfl, rfl, Nat.le_refl _, fun _ _ _ => rfl, fun _ h => .inl h⟩, fun j hj _ hdj => absurd hdj (nn j)⟩
      rw [e0]
      rcases Nat.lt_or_ge x S.nx with h | h
      · exact h
      · rw [hS1.hs.dom x h] at hx; cases hx
    · intro x y hx _
      rw [Array.getElem?_replicate] at hx
      split at hx <;> cases hx
  · cases h
end
end CX

/-
  CX: code: what the executor comes to is what the model comes to, whatever it draws.
-/
namespace CX
open Go

theorem roundsIn_mono {F : Fence} {n : Nat} {P : Program} {c : Code} {Q Q' : Exit → Act → World → Prop} (hq : ∀ e a w, Q e a w → Q' e a w) : ∀ (m : Nat) (a : Act) (w : World), Code.roundsIn F n P c Q m a w → Code.roundsIn F n P c Q' m a w
  | 0, _, _, h => h
  | m + 1, a, w, h => by
    rw [roundsIn_succ] at h ⊢
    refine wpIn_mono h fun e a w he => ?_
    cases e <;> first | exact roundsIn_mono hq m a w he | exact hq _ _ _ he

def IhLoop (P : Program) (ih : IH) (m : Nat) : Prop := ∀ rd c S e S', ih rd (.loop c) S = some (e, S') → ∀ ρ a w, Sat ρ S a w → RdOk ρ S.nx rd → Code.roundsIn (Fw (rdB ρ rd)) 0 P c (CPost ρ S w e S') m a w

theorem CPost.after {ρ ρ1 : Nm} {S S1 : St} {a1 : Act} {w w1 : World} (h : Lands ρ S w S1 a1 w1 ρ1) {e : Ex} {S' : St} {x : Exit} {a' : Act} {w' : World} (hp : CPost ρ1 S1 w1 e S' x a' w') : CPost ρ S w e S' x a' w' := by
  obtain ⟨h1, ρ2, h2⟩ := hp
  exact ⟨h1, ρ2, h.trans h2⟩

theorem run_enterLoop_inner {P : Program} {w : World} (fn : FuncId) (tmps : Array Value) (ps : Array Tmp) (assign body : Code) {l : Nat} {r : Loop} (h : w.heap[l]? = some (.loop r)) :
    (Instr.enterLoop fn tmps ps assign body (some l)).run P w = .ok (w.heap.size, []) (w.alloc (.loop { state := .ready, pending := none, fn, tmps, params := ps, assign, body, defers := r.defers })) := by
  unfold Instr.enterLoop
  simp only [Sem.run_bind, run_getLoop h, run_newObj_alloc, Result.andThen, Sem.run_pure]

section
variable {P : Program} {E : Env} (hE : EnvOk E P) {ih : IH} (hI : IhOk P ih)
include hE hI

/-- What a range over a function comes to, once the loop's record lies. -/
theorem range_ok {ρ ρ1 : Nm} {S : St} {a : Act} {w w1 : World} {nx1 : Nat} {g1 : T O} {lid : Nat} {L : Loc} {mark : List Deferred} {df' : List Nat} {rd : Option Nat} {fnn : FuncId}
    (hsize : a.tmps.size = S.nt) (hreg : RegsOk ρ S.nx S.regs a.tmps) (hS1 : HSat ρ1 g1.get nx1 w1) (hag : agree S.nx ρ ρ1) (hle : S.nx ≤ nx1) (hlid : lid < nx1) (hL : ρ1 lid = some L) (hfr : Fr (Own ρ S.h.get S.bar) w (Own ρ1 g1.get S.bar) w1)
    (hdf : RvD ρ1 nx1 df' (mark ++ a.defers)) {gop : Operand} {ps : Array Tmp} {assign body : Code} {f : Nat} {ga gb : List V} (hgo : evR S.regs gop = some (.fn (.func f) ga gb)) {r : Ex × St}
    (h : callF E ih S.bar g1 nx1 f (ga ++ [.fn (.yield lid) [] []] ++ gb) (fun _ h nx => match h.get lid with
          | some (.loop .busy ..) => none
          | some (.loop _ j ..) => setLoop S.bar h lid .exhausted j fun h => exitOf j ⟨S.nt, S.bar, S.regs, h, nx, df'⟩
          | _ => none) = some r) (henter : (Instr.enterLoop fnn a.tmps ps assign body (rdB ρ rd)).run P w = .ok (L.b, mark) w1) :
    ∃ (l : Nat) (mark : List Deferred) (w₁ : World) (d : Deferred) (w₁' : World) (f : FuncId) (args : Array Value) (w₂ : World),
      (Instr.enterLoop fnn a.tmps ps assign body (Fw (rdB ρ rd)).round).run P w = .ok (l, mark) w₁ ∧
      (resolve a.eval (rangeCall gop l) 0).run P w₁ = .ok d w₁' ∧
      (∀ f', Target.leads P w₁' d.target d.args = some f' → (Fw (rdB ρ rd)).fn f') ∧
      (invoke d.target d.args).run P w₁' = .ok (.enter f args) w₂ ∧
      ((Fw (rdB ρ rd)).depth.isSome = true → 1 ≤ 0) ∧
      CallsIn (Fw (rdB ρ rd)) (0 - 1) P f args w₂ (rangePost (Fw (rdB ρ rd)) 0 P l (CPost ρ S w r.1 r.2) { a with defers := mark ++ a.defers }) := by
  have hgv := evR_ok hreg gop _ hgo
  simp only [Rv] at hgv
  obtain ⟨xa, xb, g1', g2', g3'⟩ := hgv
  have ext : ∀ {l x}, RvL ρ S.nx l x → RvL ρ1 nx1 l x := fun h => RvL.ag hle hag h
  obtain ⟨v, g', n', fn, hk, e2, e3, e4⟩ := callF_ok hE hI hS1 (RvL.append (RvL.append (ext g1') (x' := [Value.func (.yield L.b) #[] #[]]) (by simp only [RvL, Rv]; exact ⟨⟨hlid, L, [], [], hL, trivial, trivial, rfl⟩, trivial⟩)) (ext g2')) h
  obtain ⟨hfn, hname⟩ := hE.fn _ _ e2
  have hname' : ¬ fn.name = "runtime.NumGoroutine" := hname
  have hev : ∀ x, a.eval (.const x) = x := fun _ => rfl
  refine ⟨L.b, mark, w1, { target := .fn (.func f) xb.toArray, args := xa.toArray ++ #[Value.func (.yield L.b) #[] #[]] }, w1, f, (xa ++ [Value.func (.yield L.b) #[] #[]] ++ xb).toArray, w1, henter, ?_, fun _ _ => trivial, ?_, by simp [Fw, Fence.wide], ?_⟩
  · simp [resolve, Deferred.ofValue, g3', hev]
  · simp [invoke, callFunc, hfn, hname', Option.isNone_iff_eq_none, Option.isSome_iff_ne_none.1 e3]
  · refine CallsIn.mono (e4 _) fun e w3 he => ?_
    obtain ⟨u, ρ3, rfl, d1, d2, d3, d4, d5⟩ := he
    have fin : ∀ {st : LoopState} {j : Option Code} {nt : Nat} {regs : T V} {ps' : List Nat} {a' b' : Code} {dfi : Nat}, g'.get lid = some (.loop st j nt regs ps' a' b' dfi) → st ≠ .busy →
        (setLoop S.bar g' lid .exhausted j fun h => exitOf j ⟨S.nt, S.bar, S.regs, h, n', df'⟩) = some r →
        rangePost (Fw (rdB ρ rd)) 0 P L.b (CPost ρ S w r.1 r.2) { a with defers := mark ++ a.defers } (.returned u) w3 := by
      intro st j nt regs ps' a' b' dfi hg hst hk
      obtain ⟨st0, j0, nt0, regs0, ps0, a0, b0, df0, hg0, hbar, hk⟩ := setLoop_ok hk
      rw [hg] at hg0
      cases hg0
      obtain ⟨L', D', fn', tm', k1, k2, k3, k4, k5, k6, k7, k8⟩ := loopObj d2 hg
      have hLe : L' = L := by rw [d3 lid hlid] at k2; rw [hL] at k2; exact (Option.some.inj k2).symm
      subst hLe
      obtain ⟨hS4, hF4⟩ := putLoop_ok (bar := S.bar) d2 hg hbar k2 k3 k4 k5 k6 (fn := fn') .exhausted j
      refine ⟨j, _, run_endLoop k7 hst, ?_⟩
      have hLand : Lands ρ S w ⟨S.nt, S.bar, S.regs, g'.up lid (some (.loop .exhausted j nt regs ps' a' b' dfi)), n', df'⟩ { a with defers := mark ++ a.defers } _ ρ3 :=
        ⟨⟨hS4, hsize, hreg.ext (Nat.le_trans hle d4) (fun i L hi hl => by rw [d3 i (by omega), hag i hi]; exact hl), hdf.ext d4 (fun i L hi hl => by rw [d3 i hi]; exact hl)⟩, hag.trans (d3.mono hle), Nat.le_trans hle d4, rfl, rfl, (hfr.trans d5).trans hF4⟩
      unfold exitOf at hk
      split at hk
      · simp only [Option.some.injEq] at hk
        subst hk
        exact ⟨rfl, ρ3, hLand⟩
      · simp only [Option.some.injEq] at hk
        subst hk
        exact wpIn_ret ⟨rfl, ρ3, hLand⟩
      · simp only [Option.some.injEq] at hk
        subst hk
        exact wpIn_exit ⟨rfl, ρ3, hLand⟩
      · cases hk
    split at hk
    · cases hk
    · rename_i hnb hg
      exact fin hg (fun e => hnb e) hk
    · cases hk

theorem rangeX_ok {rd : Option Nat} {gop : Operand} {ps : Array Tmp} {assign body : Code} {S : St} {r : Ex × St} (h : rangeX E ih rd gop ps assign body S = some r) {ρ : Nm} {a : Act} {w : World} (hS : Sat ρ S a w) (hrd : RdOk ρ S.nx rd) :
    (Code.rangeFunc gop ps assign body).wpIn (Fw (rdB ρ rd)) 0 P (CPost ρ S w r.1 r.2) a w := by
  unfold rangeX at h
  split at h
  · rename_i f ga gb hgo
    split at h
    · rename_i l
      split at h
      · rename_i q1 q2 q3 q4 q5 q6 q7 df hg
        rw [CX.new, T.set_eq] at h
        obtain ⟨L0, D, fn0, tm0, k1, k2, k3, k4, k5, k6, k7, k8⟩ := loopObj hS.hs hg
        have hrb : rdB ρ (some l) = some L0.b := by simp [rdB, k2]
        refine wpIn_rangeFunc fun fnn _ => ?_
        obtain ⟨hS1, hF1⟩ := hS.hs.new (bar := S.bar) (g' := (S.h.up S.nx (some (.loop .ready none S.nt S.regs ps.toList assign body df))).get) (w' := w.alloc (.loop { state := .ready, pending := none, fn := fnn, tmps := a.tmps, params := ps, assign := assign, body := body, defers := D.b })) (bs := 0) rfl ⟨rfl, rfl, rfl⟩
          (o := .loop .ready none S.nt S.regs ps.toList assign body df) (by
            simp only [ObjOk]
            refine ⟨⟨w.heap.size, 0, 0⟩, fnn, a.tmps, D, put_same _ _ _, by omega, ?_, hS.size, hS.regs.ext (Nat.le_succ _) (fun i L hi hl => ?_), ?_⟩
            · rw [Nm.put, if_neg (Nat.ne_of_lt k3)]; exact k4
            · rw [Nm.put, if_neg (Nat.ne_of_lt hi)]; exact hl
            · simpa using alloc_get w _) (fun id => T.get_up _ _ _ _)
        have hag := agree_put ρ S.nx ⟨w.heap.size, 0, 0⟩
        exact range_ok hE hI (mark := []) hS.size hS.regs hS1 hag (Nat.le_succ _) (Nat.lt_succ_self _) (put_same _ _ _) hF1 (hS.df.ext (Nat.le_succ _) (fun i L hi hl => by rw [hag i hi]; exact hl)) hgo h (by rw [hrb]; exact run_enterLoop_inner _ _ _ _ _ k7)
      · cases h
    · rw [CX.new, T.set_eq, CX.new, T.set_eq] at h
      refine wpIn_rangeFunc fun fnn _ => ?_
      obtain ⟨hS1, hF1⟩ := hS.hs.new (bar := S.bar) (g' := (S.h.up S.nx (some (.dfr true))).get) (w' := w.alloc (.deferred (some []))) (bs := 0) rfl ⟨rfl, rfl, rfl⟩ (o := .dfr true) (by
          simp only [ObjOk]
          exact ⟨⟨w.heap.size, 0, 0⟩, put_same _ _ _, by simpa using alloc_get w _⟩) (fun id => T.get_up _ _ _ _)
      have hag := agree_put ρ S.nx ⟨w.heap.size, 0, 0⟩
      obtain ⟨hS2, hF2⟩ := hS1.new (bar := S.bar) (g' := ((S.h.up S.nx (some (.dfr true))).up (S.nx + 1) (some (.loop .ready none S.nt S.regs ps.toList assign body S.nx))).get)
        (w' := (w.alloc (.deferred (some []))).alloc (.loop { state := .ready, pending := none, fn := fnn, tmps := a.tmps, params := ps, assign := assign, body := body, defers := w.heap.size })) (bs := 0) rfl ⟨rfl, rfl, rfl⟩
          (o := .loop .ready none S.nt S.regs ps.toList assign body S.nx) (by
            simp only [ObjOk]
            refine ⟨⟨(w.alloc (.deferred (some []))).heap.size, 0, 0⟩, fnn, a.tmps, ⟨w.heap.size, 0, 0⟩, put_same _ _ _, by omega, ?_, hS.size, hS.regs.ext (by omega) (fun i L hi hl => ?_), ?_⟩
            · rw [Nm.put, if_neg (by omega)]; exact put_same _ _ _
            · rw [Nm.put, if_neg (by omega), Nm.put, if_neg (by omega)]; exact hl
            · simpa using alloc_get (w.alloc (.deferred (some []))) _) (fun id => T.get_up _ _ _ _)
      have hag2 := agree_put (ρ.put S.nx ⟨w.heap.size, 0, 0⟩) (S.nx + 1) ⟨(w.alloc (.deferred (some []))).heap.size, 0, 0⟩
      have hagA := hag.trans (hag2.mono (Nat.le_succ _))
      refine range_ok hE hI (mark := [{ target := .collected w.heap.size, args := #[] }]) hS.size hS.regs hS2 hagA (by omega) (Nat.lt_succ_self _) (put_same _ _ _) (hF1.trans hF2) ?_ hgo h ?_
      · simp only [List.singleton_append, RvD]
        refine ⟨by omega, ⟨⟨w.heap.size, 0, 0⟩, ?_, rfl⟩, hS.df.ext (by omega) (fun i L hi hl => by rw [hagA i hi]; exact hl)⟩
        rw [Nm.put, if_neg (by omega)]; exact put_same _ _ _
      · have := run_enterLoop_outer (P := P) (w := w) fnn a.tmps ps assign body
        simpa [rdB] using this
  · cases h

omit hE in
theorem cxLoop_ok {m : Nat} (hLp : IhLoop P ih m) : IhLoop P (cxBody E ih) (m + 1) := by
  intro rd c S e S' h ρ a w hS hrd
  rw [roundsIn_succ]
  simp only [cxBody] at h
  split at h
  · rename_i S1 h1
    refine wpIn_mono (hI rd c _ _ _ h1 ρ a w hS hrd) ?_
    rintro x a1 w1 ⟨rfl, ρ1, hL⟩
    have := hLp rd c _ _ _ h ρ1 a1 w1 hL.sat (hrd.ag hL.ag hL.le)
    rw [rdB_ag hrd hL.ag] at this
    exact roundsIn_mono (fun x a2 w2 hp => hp.after hL) m a1 w1 this
  · rename_i hne
    refine wpIn_mono (hI rd c _ _ _ h ρ a w hS hrd) ?_
    rintro x a1 w1 ⟨rfl, hp⟩
    cases e with
    | normal => exact (hne _ h).elim
    | ret => exact ⟨rfl, hp⟩
    | exit id => exact ⟨rfl, hp⟩

/-- **One level of code.** -/
theorem cxBody_ok {m : Nat} (hLp : IhLoop P ih m) : IhOk P (cxBody E ih) := by
  intro rd c S e S' h ρ a w hS hrd
  cases c with
  | skip => simp only [cxBody, Option.some.injEq, Prod.mk.injEq] at h; obtain ⟨rfl, rfl⟩ := h; exact wpIn_skip ⟨rfl, ρ, hS.lands⟩
  | label l => simp only [cxBody, Option.some.injEq, Prod.mk.injEq] at h; obtain ⟨rfl, rfl⟩ := h; exact wpIn_label ⟨rfl, ρ, hS.lands⟩
  | ret => simp only [cxBody, Option.some.injEq, Prod.mk.injEq] at h; obtain ⟨rfl, rfl⟩ := h; exact wpIn_ret ⟨rfl, ρ, hS.lands⟩
  | exit id => simp only [cxBody, Option.some.injEq, Prod.mk.injEq] at h; obtain ⟨rfl, rfl⟩ := h; exact wpIn_exit ⟨rfl, ρ, hS.lands⟩
  | seq c1 c2 =>
    simp only [cxBody] at h
    split at h
    · rename_i S1 h1
      refine wpIn_seq (wpIn_mono (hI rd c1 _ _ _ h1 ρ a w hS hrd) ?_)
      rintro x a1 w1 ⟨rfl, ρ1, hL⟩
      have := hI rd c2 _ _ _ h ρ1 a1 w1 hL.sat (hrd.ag hL.ag hL.le)
      rw [rdB_ag hrd hL.ag] at this
      exact wpIn_mono this fun x a2 w2 hp => hp.after hL
    · rename_i hne
      refine wpIn_seq (wpIn_mono (hI rd c1 _ _ _ h ρ a w hS hrd) ?_)
      rintro x a1 w1 ⟨rfl, hp⟩
      cases e with
      | normal => exact (hne _ h).elim
      | ret => exact ⟨rfl, hp⟩
      | exit id => exact ⟨rfl, hp⟩
  | block id c1 =>
    simp only [cxBody] at h
    split at h
    · rename_i i S1 h1
      refine wpIn_block (wpIn_mono (hI rd c1 _ _ _ h1 ρ a w hS hrd) ?_)
      rintro x a1 w1 ⟨rfl, hp⟩
      simp only [exO, Exit.inBlock]
      split at h
      · rename_i hb
        simp only [Option.some.injEq, Prod.mk.injEq] at h
        obtain ⟨rfl, rfl⟩ := h
        rw [if_pos (Nat.eq_of_beq_eq_true hb)]
        exact ⟨rfl, hp⟩
      · rename_i hb
        simp only [Option.some.injEq, Prod.mk.injEq] at h
        obtain ⟨rfl, rfl⟩ := h
        rw [if_neg (fun e => by subst e; simp at hb)]
        exact ⟨rfl, hp⟩
    · rename_i hne
      refine wpIn_block (wpIn_mono (hI rd c1 _ _ _ h ρ a w hS hrd) ?_)
      rintro x a1 w1 ⟨rfl, hp⟩
      cases e with
      | normal => exact ⟨rfl, hp⟩
      | ret => exact ⟨rfl, hp⟩
      | exit id => exact (hne _ _ h).elim
  | cond x c1 c2 =>
    simp only [cxBody] at h
    split at h
    · rename_i hx
      have hv := evR_ok hS.regs x _ hx
      simp only [Rv] at hv
      exact wpIn_cond_true hv (hI rd c1 _ _ _ h ρ a w hS hrd)
    · rename_i hx
      have hv := evR_ok hS.regs x _ hx
      simp only [Rv] at hv
      exact wpIn_cond_false hv (hI rd c2 _ _ _ h ρ a w hS hrd)
    · cases h
  | loop c1 =>
    exact wpIn_loop_rounds (m + 1) (cxLoop_ok hI hLp rd c1 S e S' h ρ a w hS hrd)
  | region id ops draw =>
    cases draw with
    | true =>
      obtain ⟨S1, h1, h2⟩ := draw_ok (id := id) (ro := rdB ρ rd) hE hI hS h
      simp only [Prod.mk.injEq] at h1
      obtain ⟨rfl, rfl⟩ := h1
      exact h2
    | false =>
      simp only [cxBody] at h
      refine wpIn_region ?_
      rw [List.range_eq_range']
      have := seqOps_ok hE hI (ro := rdB ρ rd) ops (ρ0 := ρ) (S0 := S) (w0 := w) ops.toList 0 S (fun j => by simp) h hS.lands (Q := CPost ρ S w e S') (fun S1 ρ1 a1 w1 h1 hL => by
        simp only [Option.some.injEq, Prod.mk.injEq] at h1
        obtain ⟨rfl, rfl⟩ := h1
        exact ⟨rfl, ρ1, hL⟩)
      simpa using this
  | rangeFunc gop ps assign body =>
    have := rangeX_ok hE hI (rd := rd) (r := (e, S')) h hS hrd
    exact this
  | _ => cases h

omit hI in
theorem cx_ok : ∀ n, IhOk P (cx E n) ∧ IhLoop P (cx E n) n
  | 0 => ⟨fun rd c S e S' h => absurd (show (none : R) = some (e, S') from h) (by simp), fun rd c S e S' h => absurd (show (none : R) = some (e, S') from h) (by simp)⟩
  | n + 1 => ⟨cxBody_ok hE (cx_ok n).1 (cx_ok n).2, cxLoop_ok (cx_ok n).1 (cx_ok n).2⟩

/-- The world has grown; what there was lies as it lay. -/
def Kept (w w' : World) : Prop := w'.os = w.os ∧ w'.tape = w.tape ∧ w'.output = w.output ∧ w.heap.size ≤ w'.heap.size ∧ ∀ b, b < w.heap.size → w'.heap[b]? = w.heap[b]?

omit hI in
/-- **What the executor says of a call holds.** -/
theorem cx_call {f : FuncId} {n : Nat} {v : V} {args : List V} {xs : List Value} (ha : RvL (fun _ => none) 0 args xs) (h : callF E (cx E n) 0 .e 0 f args (fun v _ _ => retV v .e 0) = some (.normal, ⟨0, 0, .n .e (some v) .e, .e, 0, []⟩)) (w : World) :
    Calls P f xs.toArray w fun e w' => ∃ u ρ n, e = .returned u ∧ Rv ρ n v u ∧ Kept w w' := by
  obtain ⟨v', g', n', fn, h1, _, _, h2⟩ := callF_ok hE (cx_ok hE n).1 (ρ := fun _ => none) (n := 0) (bar := 0) (g := .e) (w := w) (xs := xs) ⟨fun id o h => by simp [T.get] at h, fun id o id' o' h => by simp [T.get] at h, fun _ _ => rfl, fun _ _ h => by cases h⟩ ha h
  have e : v' = v := by
    simp only [retV, Option.some.injEq, Prod.mk.injEq, St.mk.injEq, T.n.injEq, true_and, and_true] at h1
    exact h1
  subst e
  refine (callsIn_wide.1 (h2 none)).mono fun e w' he => ?_
  obtain ⟨u, ρ', rfl, d1, _, _, _, d5⟩ := he
  refine ⟨u, ρ', n', rfl, d1, d5.os, d5.tape, d5.output, d5.size, fun b hb => d5.keep b hb ?_⟩
  rintro ⟨id, o, L, _, h, _⟩
  simp [T.get] at h
end
end CX

/-
  CX: the closed function works() of this chapter's laws returns true, whatever the model draws: run in the kernel.
-/
namespace CX
open Go Go.Proofs

theorem names_ok : T.allB (fun fn : Func => fn.name != "runtime.NumGoroutine") fnT = true := by kernel_rfl
theorem types_ok : tabChk Try.prog env.T 184 = true := by kernel_rfl

theorem env_ok : EnvOk env Try.prog := by
  refine ⟨fun t ty h => ?_, fun f fn h => ?_, by kernel_rfl⟩
  · refine tabChk_ok 184 types_ok t ty ?_ h
    simp only [env] at h
    split at h
    · rename_i hb; simpa [Nat.blt_eq] using hb
    · cases h
  · refine ⟨T.All.get fnT id fnT_ok f fn h, ?_⟩
    have := T.All.get fnT id (T.allB_ok fnT id names_ok) f fn h
    simpa using this

theorem works_run : callF env (cx env 1000) 0 .e 0 13 [] (fun v _ _ => retV v .e 0) = some (.normal, ⟨0, 0, .n .e (some (.bool true)) .e, .e, 0, []⟩) := by kernel_rfl

/-- **works() returns true; what there was lies as it lay.** -/
theorem works_ok (w : World) : Calls Try.prog 13 #[] w fun e w' => e = .returned (.bool true) ∧ Kept w w' := by
  refine (cx_call env_ok (xs := []) (by simp [RvL]) works_run w).mono fun e w' he => ?_
  obtain ⟨u, ρ, n, rfl, h, rest⟩ := he
  simp only [Rv] at h
  subst h
  exact ⟨rfl, rest⟩
end CX

/-
  CX: how a statement is closed: the world has grown, the arguments read as they read.
-/
namespace CX
open Go Go.ChangeShapes Go.WideShapes

theorem Kept.frozen {w w' : World} (h : Kept w w') {a : Addr} (ha : a.block < w.heap.size) : w'.frozen? a = w.frozen? a := by
  simp only [World.frozen?, h.2.2.2.2 a.block ha]

theorem Kept.but {w w' : World} (h : Kept w w') (may : MemPlace → Prop) : w.keptBut w' may := by
  refine ⟨h.1, h.2.2.1, fun i hi => ?_⟩
  rw [h.2.2.2.2 i hi]
  obtain ⟨o, ho⟩ : ∃ o, w.heap[i]? = some o := ⟨w.heap[i], by simp [hi]⟩
  rw [ho]
  cases o with
  | cells c t fr => exact ⟨rfl, rfl, rfl, fun _ _ => rfl⟩
  | map es c => exact .inr ⟨rfl, rfl⟩
  | _ => rfl

section
variable {H : Type} {enc : TypeId × Value → H} {P : Program}

theorem post_kept {f : Func} {s : ChangeSpec} {apart fresh handsOn again : Bool} {W W' : World} {args : Array Value} {v : Value} {ds gs : List (DataW H)} {before pa pv : List MemPlace}
    (hW : DataW.Whole enc P f.params.toList s.vars apart W args.toList ds gs before)
    (hres : ∀ (b : Nat) (sp : Nat → Bool) (hd : Bool), DataW.TrodAll enc P W' b sp hd f.resultTypes.toList (v.resultList f.resultTypes.size) (s.fn H (ds ++ gs)).results [])
    (hargs : ∀ sp : Nat → Bool, (∀ p ∈ before, sp p.block = true) → DataW.TrodAll enc P W' 0 sp true f.params.toList args.toList (s.fn H (ds ++ gs)).args pa)
    (hvars : ∀ sp : Nat → Bool, (∀ p ∈ before, sp p.block = true) → DataW.TrodVars enc P W' sp s.vars (s.fn H (ds ++ gs)).vars pv)
    (hps : before = pa ++ pv) (hk : Kept W W')
    (hok : ∀ (j : Nat) (t : TypeId) (r : Value), f.resultTypes[j]? = some t → (v.resultList f.resultTypes.size)[j]? = some r → Value.okWide P W' .any 0 t r) :
    s.post enc P f apart fresh handsOn again W args v W' := by
  have hold : ∀ p ∈ before, (fun b => decide (b < W.heap.size)) p.block = true := fun p hp => by simpa using hW.lt p hp
  have hlt := hW.lt
  refine ⟨ds, gs, before, [], pa, pv, hW, hres _ _ _, hargs _ hold, hvars _ hold, World.keptBut_mono (fun p hp => ⟨hp, ?_⟩) (hk.but (· ∈ before)), fun _ => ?_⟩
  · rw [hps, List.mem_append] at hp
    exact Or.inr hp
  · obtain ⟨_, _, _, _, _, hz, hn⟩ := hW
    refine ⟨hok, _, _, ([] ++ pa) ++ pv, ⟨[] ++ pa, pv, trodAll_append (hargs _ (fun _ _ => rfl)) (hres _ _ _), hvars _ (fun _ _ => rfl), rfl, ?_, ?_⟩, ?_⟩
    · intro b off hp
      have hp' : MemPlace.cell b off ∈ before := by rw [hps]; simpa using hp
      rw [hk.frozen (hlt _ hp')]
      exact hz b off hp'
    · intro ha
      have := hn ha
      rw [hps] at this
      simpa using this
    · intro p hp _
      rw [hps]
      simpa using hp
end
end CX

/-
  SX: from the law of a statement's function to the statement: arguments of ints, bools, strings, slices, structs and arrays are read as data; behind the call they read as they read.
-/
namespace SX
open Go Go.ChangeShapes Go.WideShapes Go.ChangeAt Go.RowKit

/-- The kinds of a type's cells. -/
def descF (g : TypeId → Option (List Kd)) (P : Program) : List Field → Nat → Option (List Kd)
  | [], _ => some []
  | f :: r, off => match g f.type with
    | some ks => match beqN f.offset off && beqN (P.cellsOf f.type) ks.length with
      | true => match descF g P r (off + ks.length) with
        | some ks' => some (ks ++ ks')
        | none => none
      | false => none
    | none => none

def repK (ks : List Kd) : Nat → List Kd
  | 0 => []
  | n + 1 => ks ++ repK ks n

def desc (P : Program) : Nat → TypeId → Option (List Kd)
  | 0, _ => none
  | n + 1, t => match P.underlying t with
    | some .bool => some [.bool]
    | some (.int k) => some [.int k]
    | some .string => some [.str]
    | some (.slice e) => match desc P n e with
      | some (k :: ks) => match beqN (P.cellsOf e) (ks.length + 1) with
        | true => some [.sl (k :: ks)]
        | false => none
      | _ => none
    | some (.struct fs) => match descF (desc P n) P fs.toList 0 with
      | some ks => match beqN (P.cellsOf t) ks.length with
        | true => some ks
        | false => none
      | none => none
    | some (.array m e) => match desc P n e with
      | some ks => match beqN (P.cellsOf e) ks.length && beqN (P.cellsOf t) (repK ks m).length with
        | true => some (repK ks m)
        | false => none
      | none => none
    | _ => none

mutual
/-- Numbers are within their kinds. -/
def RngK : Kd → D → Prop
  | .int k, d => k.min ≤ d.i ∧ d.i ≤ k.max
  | .sl ks, d => ∀ r, r < d.n → RngKs ks (d.row r) 0
  | _, _ => True
def RngKs : List Kd → (Nat → D) → Nat → Prop
  | [], _, _ => True
  | k :: ks, f, c => RngK k (f c) ∧ RngKs ks f (c + 1)
end

theorem rngKs_ext : ∀ (ks : List Kd) (f f' : Nat → D) (c c' : Nat), (∀ j, j < ks.length → f (c + j) = f' (c' + j)) → RngKs ks f c → RngKs ks f' c'
  | [], _, _, _, _, _, _ => trivial
  | k :: ks, f, f', c, c', h, hr => by
    have h0 := h 0 (by simp)
    rw [Nat.add_zero, Nat.add_zero] at h0
    refine ⟨by rw [← h0]; exact hr.1, rngKs_ext ks f f' (c + 1) (c' + 1) (fun j hj => ?_) hr.2⟩
    have := h (j + 1) (by simpa using hj)
    rw [show c + 1 + j = c + (j + 1) by omega, show c' + 1 + j = c' + (j + 1) by omega]
    exact this

theorem rdKs_ext2 {w : World} {R : Nat → Prop} : ∀ (ks : List Kd) (f f' : Nat → D) (g g' : Nat → Option Value) (c c' : Nat), (∀ j, j < ks.length → f (c + j) = f' (c' + j)) → (∀ j, j < ks.length → g (c + j) = g' (c' + j)) →
    RdKs w R ks f g c → RdKs w R ks f' g' c'
  | [], _, _, _, _, _, _, _, _, _ => trivial
  | k :: ks, f, f', g, g', c, c', h, hg, hr => by
    have h0 := h 0 (by simp)
    have g0 := hg 0 (by simp)
    rw [Nat.add_zero, Nat.add_zero] at h0 g0
    refine ⟨by rw [← h0, ← g0]; exact hr.1, rdKs_ext2 ks f f' g g' (c + 1) (c' + 1) (fun j hj => ?_) (fun j hj => ?_) hr.2⟩
    · have := h (j + 1) (by simpa using hj)
      rw [show c + 1 + j = c + (j + 1) by omega, show c' + 1 + j = c' + (j + 1) by omega]
      exact this
    · have := hg (j + 1) (by simpa using hj)
      rw [show c + 1 + j = c + (j + 1) by omega, show c' + 1 + j = c' + (j + 1) by omega]
      exact this

/-- What a list of cells holds. -/
def Holds (w : World) (ks : List Kd) (cs : List Value) : Prop :=
  ∃ f : Nat → D, cs.length = ks.length ∧ RdKs w (fun b => b < w.heap.size) ks f (fun c => cs[c]?) 0 ∧ RngKs ks f 0

theorem Holds.append {w : World} {ks ks' : List Kd} {cs cs' : List Value} (h : Holds w ks cs) (h' : Holds w ks' cs') : Holds w (ks ++ ks') (cs ++ cs') := by
  obtain ⟨f, hl, hr, hg⟩ := h
  obtain ⟨f', hl', hr', hg'⟩ := h'
  refine ⟨fun c => if c < ks.length then f c else f' (c - ks.length), by simp [hl, hl'], rdKs_split ks ks' 0 ?_ ?_, ?_⟩
  · refine rdKs_ext2 ks f _ _ _ 0 0 (fun j hj => by simp [hj]) (fun j hj => ?_) hr
    simp only [Nat.zero_add]
    rw [List.getElem?_append_left (by omega)]
  · refine rdKs_ext2 ks' f' _ _ _ 0 (0 + ks.length) (fun j hj => ?_) (fun j hj => ?_) hr'
    · simp only [Nat.zero_add]
      rw [if_neg (by omega), Nat.add_sub_cancel_left]
    · simp only [Nat.zero_add]
      rw [List.getElem?_append_right (by omega), hl, Nat.add_sub_cancel_left]
  · have e : ∀ (a b : List Kd) (F : Nat → D) (c : Nat), RngKs a F c → RngKs b F (c + a.length) → RngKs (a ++ b) F c := by
      intro a
      induction a with
      | nil => intro b F c _ h; simpa using h
      | cons k a ih =>
        intro b F c h1 h2
        refine ⟨h1.1, ih b F (c + 1) h1.2 ?_⟩
        rw [List.length_cons] at h2
        rwa [show c + 1 + a.length = c + (a.length + 1) by omega]
    refine e ks ks' _ 0 (rngKs_ext ks f _ 0 0 (fun j hj => by simp [hj]) hg) (rngKs_ext ks' f' _ 0 _ (fun j hj => ?_) hg')
    simp only [Nat.zero_add]
    rw [if_neg (by omega), Nat.add_sub_cancel_left]

theorem Holds.nil {w : World} : Holds w [] [] := ⟨fun _ => .nil, rfl, trivial, trivial⟩

theorem addr_add2 (a : Addr) (i c : Nat) : (a.add i).add c = a.add (i + c) := by
  unfold Addr.add
  by_cases hi : i = 0
  · subst hi; simp
  · by_cases hc : c = 0
    · subst hc; simp [hi]
    · simp [hi, hc, Nat.add_assoc]

theorem mapM_at {α β : Type} {f : α → Option β} : ∀ {l : List α} {r : List β}, l.mapM f = some r → r.length = l.length ∧ ∀ (i : Nat) (h : i < l.length), ∃ y, f l[i] = some y ∧ r[i]? = some y
  | [], r, h => by
    simp only [List.mapM_nil, Option.pure_def, Option.some.injEq] at h
    subst h
    exact ⟨rfl, fun i h => by simp at h⟩
  | x :: xs, r, h => by
    rw [List.mapM_cons] at h
    cases hx : f x with
    | none => simp [hx] at h
    | some y =>
      cases hxs : xs.mapM f with
      | none => simp [hx, hxs] at h
      | some ys =>
        simp only [hx, hxs, Option.bind_eq_bind, Option.bind_some, Option.pure_def, Option.some.injEq] at h
        subst h
        obtain ⟨h1, h2⟩ := mapM_at hxs
        refine ⟨by simp [h1], fun i hi => ?_⟩
        cases i with
        | zero => exact ⟨y, by simpa using hx, by simp⟩
        | succ i =>
          obtain ⟨z, e1, e2⟩ := h2 i (by simpa using hi)
          exact ⟨z, by simpa using e1, by simpa using e2⟩

theorem cells_get {w : World} {base : Nat} {a : Addr} {n : Nat} {cs : List Value} (h : w.cells? base a n = some cs) : cs.length = n ∧ (0 < n → a.block < w.heap.size) ∧ ∀ c, c < n → w.cell? (a.add c) = cs[c]? := by
  unfold World.cells? at h
  split at h
  · obtain ⟨h1, h2⟩ := mapM_at h
    rw [List.length_range] at h1
    have key : ∀ c, c < n → w.cell? (a.add c) = cs[c]? := fun c hc => by
      obtain ⟨y, e1, e2⟩ := h2 c (by simpa using hc)
      rw [List.getElem_range] at e1
      rw [e1, e2]
    refine ⟨h1, fun h0 => ?_, key⟩
    obtain ⟨y, e1, _⟩ := h2 0 (by simpa using h0)
    rw [List.getElem_range] at e1
    rcases Nat.lt_or_ge a.block w.heap.size with hb | hb
    · exact hb
    · exfalso
      unfold World.cell? at e1
      rw [add_block] at e1
      rw [Array.getElem?_eq_none (by omega)] at e1
      cases e1
  · cases h

section
variable {H : Type} {enc : TypeId × Value → H} {P : Program} {w : World} {base : Nat} {spare : Nat → Bool} {held : Bool}

theorem wf_rng {k : IntKind} {n : Int} (h : (Lit.int k n).wf = true) : k.min ≤ n ∧ n ≤ k.max := by
  simpa [Lit.wf] using h

theorem holds_one {k : Kd} {d : D} {u : Value} (h : RdK w (fun b => b < w.heap.size) k d u) (hr : RngK k d) : Holds w [k] [u] :=
  ⟨fun _ => d, rfl, ⟨⟨u, rfl, h⟩, trivial⟩, hr, trivial⟩

theorem holds_rep {ks : List Kd} {cs : List Value} (m : Nat) (hl : cs.length = (repK ks m).length) (h : ∀ i, i < m → Holds w ks ((cs.drop (i * ks.length)).take ks.length)) : Holds w (repK ks m) cs := by
  induction m generalizing cs with
  | zero =>
    have : cs = [] := List.length_eq_zero_iff.1 (by simpa [repK] using hl)
    subst this
    exact Holds.nil
  | succ m ih =>
    have e : cs = cs.take ks.length ++ cs.drop ks.length := (List.take_append_drop _ _).symm
    rw [e]
    refine Holds.append (by simpa using h 0 (by omega)) (ih ?_ fun i hi => ?_)
    · simp only [List.length_drop, hl, repK, List.length_append]
      omega
    · have := h (i + 1) (by omega)
      rwa [List.drop_drop, show ks.length + i * ks.length = (i + 1) * ks.length by rw [Nat.add_mul]; omega]

theorem holds_fields {g : TypeId → Option (List Kd)} {cs : List Value} : ∀ (fs : List Field) (off : Nat) (ks : List Kd), descF g P fs off = some ks → cs.length = off + ks.length →
    (∀ f ∈ fs, ∀ ks', g f.type = some ks' → Holds w ks' ((cs.drop f.offset).take (P.cellsOf f.type))) → Holds w ks (cs.drop off)
  | [], off, ks, h, hl, _ => by
    simp only [descF, Option.some.injEq] at h
    subst h
    have : cs.drop off = [] := List.drop_eq_nil_of_le (by simp at hl; omega)
    rw [this]
    exact Holds.nil
  | f :: r, off, ks, h, hl, hf => by
    simp only [descF] at h
    split at h
    · rename_i ks1 hk
      split at h
      · rename_i hb
        simp only [Bool.and_eq_true, beqN_iff] at hb
        split at h
        · rename_i ks2 hks2
          simp only [Option.some.injEq] at h
          subst h
          have e : cs.drop off = (cs.drop off).take ks1.length ++ (cs.drop off).drop ks1.length := (List.take_append_drop _ _).symm
          rw [e]
          refine Holds.append ?_ ?_
          · have := hf f (by simp) ks1 hk
            rwa [hb.1, hb.2] at this
          · rw [List.drop_drop]
            exact holds_fields r (off + ks1.length) ks2 hks2 (by rw [hl, List.length_append]; omega) (fun f' hf' => hf f' (by simp [hf']))
        · cases h
      · cases h
    · cases h

theorem trod_array {t e : TypeId} {n m : Nat} {cs : List Value} {x : DataW H × List MemPlace} (ht : P.underlying t = some (.array n e)) (h : DataW.trod enc P w base spare held (m + 1) t cs = some x) :
    cs.length = P.cellsOf t ∧ ∀ i, i < n → ∃ y, DataW.trod enc P w base spare held m e ((cs.drop (i * P.cellsOf e)).take (P.cellsOf e)) = some y := by
  unfold DataW.trod at h
  rw [ht] at h
  split at h <;> simp_all
  obtain ⟨hl, h⟩ := h
  obtain ⟨a, h, _⟩ := h
  obtain ⟨h1, h2⟩ := mapM_at h
  intro i hi
  obtain ⟨y, e1, _⟩ := h2 i (by simpa using hi)
  rw [List.getElem_range] at e1
  exact ⟨y.1, y.2, by simpa using e1⟩

/-- What reads as data by the claim's reading reads as data here. -/
theorem holds_of_trod : ∀ (n : Nat) (t : TypeId) (ks : List Kd), desc P n t = some ks → ∀ (m : Nat) (cs : List Value) (x : DataW H × List MemPlace), DataW.trod enc P w base spare held m t cs = some x → Holds w ks cs
  | 0, _, _, h, _, _, _, _ => by simp [desc] at h
  | n + 1, t, ks, h, m, cs, x, hx => by
    unfold desc at h
    split at h
    · rename_i hu
      simp only [Option.some.injEq] at h
      subst h
      obtain ⟨b, rfl, _⟩ := DataW.trod_bool hu hx
      refine holds_one (d := .ofP (b = true)) ?_ (by simp [RngK])
      simp only [RdK, D.p_ofP, Value.bool.injEq]
      rw [Bool.eq_iff_iff]
      exact (@decide_eq_true_iff _ (Classical.propDecidable _)).symm
    · rename_i k hu
      simp only [Option.some.injEq] at h
      subst h
      obtain ⟨z, rfl, _, hw⟩ := DataW.trod_int hu hx
      exact holds_one (d := .ofI z) (by simp [RdK, D.i_ofI]) (wf_rng hw)
    · rename_i hu
      simp only [Option.some.injEq] at h
      subst h
      obtain ⟨z, rfl, _, _⟩ := DataW.trod_string hu hx
      exact holds_one (d := .ofS z) (by simp [RdK, D.ofS, D.s]) (by simp [RngK])
    · rename_i e hu
      split at h
      · rename_i k ks' hd
        split at h
        · rename_i hb
          have hb : P.cellsOf e = ks'.length + 1 := beqN_eq hb
          simp only [Option.some.injEq] at h
          subst h
          rcases DataW.trod_slice hu hx with ⟨rfl, _⟩ | ⟨a, len, cap, elems, rest, m', rfl, rfl, _, _, h2, h3, h4, h5, _, _⟩
          · refine holds_one (d := .ofL 0 fun _ _ => .nil) ?_ ?_
            · simp only [RdK, D.n_ofL]
              exact ⟨none, 0, rfl, by omega, by omega, fun r hr => by omega⟩
            · simp only [RngK, D.n_ofL]
              exact fun r hr => by omega
          · have row : ∀ i, i < len → a.block < w.heap.size ∧ ∃ f : Nat → D, RdKs w (fun b => b < w.heap.size) (k :: ks') f (fun c => w.cell? (a.add (i * (ks'.length + 1) + c))) 0 ∧ RngKs (k :: ks') f 0 := by
              intro i hi
              have e1 := h5 i hi
              rw [List.getElem?_eq_getElem (by omega)] at e1
              obtain ⟨cs', c1, c2⟩ := Option.bind_eq_some_iff.1 e1
              obtain ⟨d1, d2, d3⟩ := cells_get c1
              rw [hb] at d1 d2 d3 c1
              obtain ⟨f, g1, g2, g3⟩ := holds_of_trod n e (k :: ks') hd m' cs' _ c2
              refine ⟨by have := d2 (by omega); rwa [add_block] at this, f, rdKs_ext2 _ f f _ _ 0 0 (fun _ _ => rfl) (fun j hj => ?_) g2, g3⟩
              simp only [Nat.zero_add]
              rw [← d3 j (by simpa using hj), addr_add2]
            refine holds_one (d := .ofL len fun i => if h : i < len then Classical.choose (row i h).2 else fun _ => .nil) ?_ ?_
            · simp only [RdK, D.n_ofL, D.row_ofL]
              refine ⟨some a, cap, rfl, h2, h3, fun r hr => ⟨a, rfl, (row r hr).1, ?_⟩⟩
              rw [dif_pos hr]
              exact (Classical.choose_spec (row r hr).2).1
            · simp only [RngK, D.n_ofL, D.row_ofL]
              intro r hr
              rw [dif_pos hr]
              exact (Classical.choose_spec (row r hr).2).2
        · cases h
      · cases h
    · rename_i fs hu
      split at h
      · rename_i ks' hd
        split at h
        · rename_i hb
          have hb := beqN_eq hb
          simp only [Option.some.injEq] at h
          subst h
          obtain ⟨xs, m', rfl, _, hl, hxs, hf⟩ := DataW.trod_struct hu hx
          have := holds_fields (w := w) (cs := cs) fs.toList 0 ks' hd (by rw [hl, hb]; simp) (fun f hm ks1 hk1 => ?_)
          · simpa using this
          · obtain ⟨i, hi, rfl⟩ := List.mem_iff_getElem.1 hm
            have hi' : i < fs.size := by simpa using hi
            have e1 := hf i fs[i] (by simp [hi'])
            rw [List.getElem?_eq_getElem (by omega)] at e1
            have e2 : fs.toList[i] = fs[i] := by simp
            rw [e2] at hk1 ⊢
            exact holds_of_trod n _ ks1 hk1 m' _ _ e1
        · cases h
      · cases h
    · rename_i m0 e hu
      split at h
      · rename_i ks' hd
        split at h
        · rename_i hb
          simp only [Bool.and_eq_true, beqN_iff] at hb
          simp only [Option.some.injEq] at h
          subst h
          cases m with
          | zero => simp [DataW.trod] at hx
          | succ m' =>
            obtain ⟨hl, hi⟩ := trod_array hu hx
            refine holds_rep m0 (by rw [hl, hb.2]) fun i h => ?_
            obtain ⟨y, hy⟩ := hi i h
            rw [hb.1] at hy
            exact holds_of_trod n e ks' hd m' _ y hy
        · cases h
      · cases h
    · cases h

def isAgg (P : Program) (t : TypeId) : Bool := match P.underlying t with
  | some (.struct _) => true
  | some (.array _ _) => true
  | _ => false

def descAll (P : Program) (n : Nat) : List TypeId → Option (List (Bool × List Kd))
  | [] => some []
  | t :: r => match desc P n t, descAll P n r with
    | some ks, some l => some ((isAgg P t, ks) :: l)
    | _, _ => none

/-- Numbers of arguments are within their kinds. -/
def RngAll : List (Bool × List Kd) → List (List D) → Prop
  | (_, ks) :: r, d :: ds => RngKs ks (fun c => d.getD c .nil) 0 ∧ RngAll r ds
  | _, _ => True

def trueRes (_ : List (List D)) (_ _ : Nat) : D := .ofP True

theorem shape_of {r : Reach} {n : Nat} {t : TypeId} {ks : List Kd} {v : Value} (hd : desc P n t = some ks) (h : Value.okWide P w r base t v) :
    (isAgg P t = true → v = .agg (v.cells.toList).toArray) ∧ (isAgg P t = false → v.cells.toList = [v]) := by
  cases n with
  | zero => simp [desc] at hd
  | succ n =>
    unfold desc at hd
    unfold isAgg
    split at hd
    · rename_i hu
      obtain ⟨b, rfl⟩ := okWide_bool hu h
      rw [hu]
      exact ⟨fun h => (by cases h), fun _ => rfl⟩
    · rename_i k hu
      obtain ⟨z, rfl⟩ := okWide_int hu h
      rw [hu]
      exact ⟨fun h => (by cases h), fun _ => rfl⟩
    · rename_i hu
      obtain ⟨z, rfl⟩ := okWide_string hu h
      rw [hu]
      exact ⟨fun h => (by cases h), fun _ => rfl⟩
    · rename_i e hu
      obtain ⟨a, l, c, rfl⟩ := okWide_slice hu h
      rw [hu]
      exact ⟨fun h => (by cases h), fun _ => rfl⟩
    · rename_i fs hu
      obtain ⟨cs, rfl, _⟩ := okWide_struct hu h
      rw [hu]
      exact ⟨fun _ => by simp [Value.cells], fun h => by cases h⟩
    · rename_i m e hu
      have : ∃ cs, v = .agg cs := by
        unfold Value.okWide at h
        rw [hu] at h
        obtain ⟨cs, hc, _⟩ := h
        exact ⟨cs, hc⟩
      obtain ⟨cs, rfl⟩ := this
      rw [hu]
      exact ⟨fun _ => by simp [Value.cells], fun h => by cases h⟩
    · cases hd

theorem args_read {r : Reach} {n : Nat} : ∀ (ts : List TypeId) (params : List (Bool × List Kd)) (vs : List Value) (ds : List (DataW H)) (ps : List MemPlace), descAll P n ts = some params →
    (∀ (j : Nat) t v, ts[j]? = some t → vs[j]? = some v → Value.okWide P w r base t v) → DataW.TrodAll enc P w 0 spare held ts vs ds ps →
    ∃ dss, ArgsRd w (fun b => b < w.heap.size) params dss vs ∧ RngAll params dss
  | [], params, vs, ds, ps, hd, _, h => by
    simp only [descAll, Option.some.injEq] at hd
    subst hd
    obtain ⟨rfl, _, _⟩ := trodAll_nil h
    exact ⟨[], trivial, trivial⟩
  | t :: ts, params, vs, ds, ps, hd, hok, h => by
    unfold descAll at hd
    split at hd
    · rename_i ks l hks hl
      simp only [Option.some.injEq] at hd
      subst hd
      cases vs with
      | nil => simp [DataW.TrodAll] at h
      | cons v vs =>
        cases ds with
        | nil => simp [DataW.TrodAll] at h
        | cons d ds =>
          obtain ⟨p, q, ⟨m, hm⟩, h2, _⟩ := h
          obtain ⟨f, g1, g2, g3⟩ := holds_of_trod n t ks hks m _ _ hm
          obtain ⟨dss, i1, i2⟩ := args_read ts l vs ds q hl (fun j t' v' ht hv => hok (j + 1) t' v' (by simpa using ht) (by simpa using hv)) h2
          obtain ⟨s1, s2⟩ := shape_of hks (hok 0 t v (by simp) (by simp))
          have e : ∀ j, j < ks.length → f (0 + j) = (((List.range ks.length).map f).getD (0 + j) .nil) := fun j hj => by simp [List.getD_eq_getElem?_getD, hj]
          refine ⟨(List.range ks.length).map f :: dss, ⟨by simp, ⟨v.cells.toList, s1, s2, g1, rdKs_ext2 ks f _ _ _ 0 0 e (fun _ _ => rfl) g2⟩, i1⟩, rngKs_ext ks f _ 0 0 e g3, i2⟩
    · cases hd

theorem Kept_same {W W' : World} (h : CX.Kept W W') {p : MemPlace} (hp : p.block < W.heap.size) : W.sameAt W' p := by
  cases p with
  | cell b off =>
    simp only [World.sameAt, World.cell?]
    rw [h.2.2.2.2 b hp]
  | map b => exact h.2.2.2.2 b hp

theorem args_stay (hl : laidOutB P = true) {W W' : World} {sp : Nat → Bool} : ∀ {ts : List TypeId} {vs : List Value} {ds : List (DataW H)} {ps : List MemPlace}, (ts.all fun t => P.readableRec t && decide (t < P.types.size)) = true →
    DataW.TrodAll enc P W base (fun _ => true) true ts vs ds ps → (∀ p ∈ ps, W.sameAt W' p) → (∀ p ∈ ps, sp p.block = true) → DataW.TrodAll enc P W' base sp true ts vs ds ps
  | [], vs, ds, ps, _, h, _, _ => by
    obtain ⟨rfl, rfl, rfl⟩ := trodAll_nil h
    exact trodAll_mk0
  | t :: ts, [], ds, ps, _, h, _, _ => by simp [DataW.TrodAll] at h
  | t :: ts, v :: vs, [], ps, _, h, _, _ => by simp [DataW.TrodAll] at h
  | t :: ts, v :: vs, d :: ds, ps, hr, h, h1, h2 => by
    obtain ⟨p, q, ha, hb, rfl⟩ := h
    simp only [List.all_cons, Bool.and_eq_true, decide_eq_true_eq] at hr
    exact ⟨p, q, Go.WideElems.Trod_stays hl hr.1.1 hr.1.2 ha (fun x hx => h1 x (by simp [hx])) (fun x hx => h2 x (by simp [hx])),
      args_stay hl (by simpa using hr.2) hb (fun x hx => h1 x (by simp [hx])) (fun x hx => h2 x (by simp [hx])), rfl⟩

/-- **From the law of a statement's function to what the statement asks.** -/
theorem said {fnum : FuncId} {f : Func} {s : ChangeSpec} {fresh handsOn again : Bool} {n : Nat} {params : List (Bool × List Kd)} {tb : TypeId}
    (hpure : PureFn P ⟨params, [(false, [.bool])]⟩ fnum (RngAll params) trueRes) (hd : descAll P n f.params.toList = some params) (hl : laidOutB P = true)
    (hr : (f.params.toList.all fun t => P.readableRec t && decide (t < P.types.size)) = true) (hres : f.resultTypes = #[tb]) (hb : P.underlying tb = some .bool)
    (hs : ∀ ds : List (DataW H), ds.length = f.params.toList.length → s.fn H ds = ⟨[.lit (.bool true)], ds, []⟩) (hv : s.vars = []) {apart : Bool} (W : World) (base : Nat) (args : Array Value) (ds gs : List (DataW H)) (before : List MemPlace)
    (hval : ∀ (j : Nat) t v, f.params[j]? = some t → args[j]? = some v → Value.okWide P W .any base t v) (hW : DataW.Whole enc P f.params.toList s.vars apart W args.toList ds gs before) :
    Calls P fnum args W fun e W' => ∃ v, e = .returned v ∧ s.post enc P f apart fresh handsOn again W args v W' := by
  have hW' := hW
  obtain ⟨p, q, hA, hV, rfl, _, _⟩ := hW
  rw [hv] at hV
  obtain ⟨rfl, rfl⟩ := trodVars_none hV
  obtain ⟨dss, h1, h2⟩ := args_read (r := .any) (base := base) f.params.toList params args.toList ds p hd (fun j t v ht hv => hval j t v (by simpa using ht) (by simpa using hv)) hA
  have hlen := (trodAll_length hA).2
  have hfn : s.fn H (ds ++ []) = ⟨[.lit (.bool true)], ds, []⟩ := by rw [List.append_nil]; exact hs ds hlen
  have hcall := hpure W (fun b => b < W.heap.size) args.toList dss (fun _ h => h) h1 h2
  rw [show args.toList.toArray = args by simp] at hcall
  refine hcall.mono fun e W' h => ?_
  obtain ⟨us, R', rfl, hg, hR1, hR2, hrd⟩ := h
  have hu : us = [.bool true] := by
    cases us with
    | nil => simp [ResRd] at hrd
    | cons u us =>
      cases us with
      | cons _ _ => simp [ResRd] at hrd
      | nil =>
        obtain ⟨⟨cs, _, c2, c3, c4⟩, _⟩ := hrd
        have c2 := c2 rfl
        subst c2
        simp only [RdKs, RdK, and_true] at c4
        obtain ⟨z, hz, hz'⟩ := c4
        simp only [List.getElem?_cons_zero, Option.some.injEq] at hz
        subst hz
        rw [hz', @decide_eq_true _ (Classical.propDecidable _) (show (trueRes dss 0 0).p from trivial)]
  subst hu
  have hk : CX.Kept W W' := ⟨hg.os, hg.tape, hg.output, hg.size, hg.keep⟩
  have hlt := hW'.lt
  simp only [List.append_nil] at hW' hlt
  refine ⟨_, rfl, CX.post_kept (pa := p) (pv := []) hW' (fun b sp hd => ?_) (fun sp hsp => ?_) (fun sp _ => ?_) (by simp) hk (ok_one hres rfl (okWide_bool_mk hb _))⟩
  · rw [hfn, hres]
    exact trodAll_mk1 (shut_bool hb _)
  · rw [hfn]
    exact args_stay hl hr hA (fun x hx => Kept_same hk (hlt x hx)) (fun x hx => hsp x hx)
  · rw [hfn, hv]
    rfl
end
end SX

/-
  The chapter's works, as a contract: it returns true.
-/
namespace SX
open Go Go.Proofs

theorem works_pure : PureFn Try.prog ⟨[], [(false, [.bool])]⟩ 13 (fun _ => True) trueRes := by
  intro w R args ds hR hargs _
  have e : args = [] := by
    cases args with
    | nil => rfl
    | cons a l => cases ds <;> simp [ArgsRd] at hargs
  subst e
  refine (CX.works_ok w).mono fun e w' h => ?_
  obtain ⟨he, h1, h2, h3, h4, h5⟩ := h
  refine ⟨[.bool true], R, he, ⟨h1, h2, h3, h4, h5⟩, fun b hb => hb, fun b hb => .inl hb, ⟨⟨[.bool true], by simp, by simp, rfl, ?_⟩, trivial⟩⟩
  simp only [RdKs, RdK, and_true]
  exact ⟨_, rfl, congrArg Value.bool (@decide_eq_true _ (Classical.propDecidable _) (show (trueRes ds 0 0).p from trivial)).symm⟩
def cWorks : Ctr := ⟨13, ⟨[], [(false, [.bool])]⟩, fun _ => True, trueRes⟩
end SX
