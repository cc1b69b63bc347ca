/-
  CodeRound: for all numbers, the function returns true, and its arguments read as they did.
-/
import Derived.Test.YtlgaegbommfdmaaGreatCodeRound4
import Derived.RangeFuncRecord
import Derived.RangeFuncCalls
import Derived.LoopNIn
import Derived.KernelRfl
import Derived.WalkKit
import Derived.ProofKit
import Derived.JoinedCond
import Derived.RowKit3
import Derived.ChangeArms
import Derived.ChangeCalls
import Derived.WideKeyArgs
import Derived.Test.YtlgaegbommfdmaaGreatRows
/-
  CX: calls: what they come to, given what the code of functions comes to.
-/
namespace CX
open Go

def Fw (r : Option Nat) : Fence := { Fence.wide with round := r }

/-- The block of the round's loop. -/
def rdB (ρ : Nm) (rd : Option Nat) : Option Nat := rd.bind fun id => (ρ id).map Loc.b

def exO : Ex → Exit
  | .normal => .normal
  | .ret => .ret
  | .exit id => .exit id

/-- How a state comes from an earlier one. -/
structure Lands (ρ : Nm) (S : St) (w : World) (S' : St) (a' : Act) (w' : World) (ρ' : Nm) : Prop where
  sat : Sat ρ' S' a' w'
  ag : agree S.nx ρ ρ'
  le : S.nx ≤ S'.nx
  nt : S'.nt = S.nt
  bar : S'.bar = S.bar
  fr : Fr (Own ρ S.h.get S.bar) w (Own ρ' S'.h.get S'.bar) w'

def CPost (ρ : Nm) (S : St) (w : World) (e : Ex) (S' : St) : Exit → Act → World → Prop := fun x a' w' => x = exO e ∧ ∃ ρ', Lands ρ S w S' a' w' ρ'

def RdOk (ρ : Nm) (n : Nat) (rd : Option Nat) : Prop := ∀ id, rd = some id → id < n ∧ ∃ L, ρ id = some L

def IhOk (P : Program) (ih : IH) : Prop := ∀ rd c S e S', ih rd c S = some (e, S') → ∀ ρ a w, Sat ρ S a w → RdOk ρ S.nx rd → c.wpIn (Fw (rdB ρ rd)) 0 P (CPost ρ S w e S') a w

theorem Lands.trans {ρ ρ1 ρ2 : Nm} {S S1 S2 : St} {a1 a2 : Act} {w w1 w2 : World} (h : Lands ρ S w S1 a1 w1 ρ1) (k : Lands ρ1 S1 w1 S2 a2 w2 ρ2) : Lands ρ S w S2 a2 w2 ρ2 :=
  ⟨k.sat, h.ag.trans (k.ag.mono h.le), Nat.le_trans h.le k.le, k.nt.trans h.nt, k.bar.trans h.bar, h.fr.trans k.fr⟩

theorem Sat.lands {ρ : Nm} {S : St} {a : Act} {w : World} (h : Sat ρ S a w) : Lands ρ S w S a w ρ := ⟨h, agree.refl _ _, Nat.le_refl _, rfl, rfl, Fr.refl _ _⟩

theorem rdB_ag {ρ ρ' : Nm} {n : Nat} {rd : Option Nat} (h : RdOk ρ n rd) (ha : agree n ρ ρ') : rdB ρ' rd = rdB ρ rd := by
  cases rd with
  | none => rfl
  | some id => simp only [rdB, Option.bind_some, ha id (h id rfl).1]

theorem RdOk.ag {ρ ρ' : Nm} {n m : Nat} {rd : Option Nat} (h : RdOk ρ n rd) (ha : agree n ρ ρ') (hm : n ≤ m) : RdOk ρ' m rd := fun id e => by
  obtain ⟨h1, L, h2⟩ := h id e
  exact ⟨by omega, L, by rw [ha id h1]; exact h2⟩

theorem callsFw {r : Option Nat} {n : Nat} {P : Program} {f : FuncId} {args : Array Value} {w : World} {R : Ending → World → Prop} (h : Calls P f args w R) : CallsIn (Fw r) n P f args w R :=
  callsIn_wide.2 h

theorem outV_ok {β : Type} {x : R} {k : V → T O → Nat → Option β} {r : β} (h : outV x k = some r) :
    ∃ r0 v g n, x = some r0 ∧ k v g n = some r ∧ ∀ v' g' n', retV v' g' n' = some r0 → v' = v ∧ g' = g ∧ n' = n := by
  unfold outV at h
  split at h
  · exact ⟨_, _, _, _, rfl, h, fun v' g' n' e => by simp only [retV, Option.some.injEq, Prod.mk.injEq, St.mk.injEq, T.n.injEq] at e; obtain ⟨_, _, _, ⟨_, e1, _⟩, e2, e3, _⟩ := e; exact ⟨e1, e2, e3⟩⟩
  · cases h

/-- What a call comes to. -/
def CallPost (ρ : Nm) (g : Nat → Option O) (n bar : Nat) (w : World) (v : V) (g' : Nat → Option O) (n' : Nat) (e : Ending) (w' : World) : Prop :=
  ∃ u ρ', e = .returned u ∧ Rv ρ' n' v u ∧ HSat ρ' g' n' w' ∧ agree n ρ ρ' ∧ n ≤ n' ∧ Fr (Own ρ g bar) w (Own ρ' g' bar) w'

theorem enterRegs_ok {ρ : Nm} {n : Nat} : ∀ (l : List V) (x : List Value) (i : Nat) (t : T V) {k : T V → R} {r : Ex × St}, enterRegs l i t k = some r → RvL ρ n l x →
    ∃ t', k t' = some r ∧ ∀ j v, t'.get j = some v → (∃ u, i ≤ j ∧ x[j - i]? = some u ∧ Rv ρ n v u) ∨ t.get j = some v
  | [], [], i, t, k, r, h, _ => ⟨t, h, fun j v hj => .inr hj⟩
  | v :: l, u :: x, i, t, k, r, h, hr => by
    simp only [RvL] at hr
    simp only [enterRegs] at h
    rw [T.set_eq] at h
    obtain ⟨t', h1, h2⟩ := enterRegs_ok l x (Nat.succ i) _ h hr.2
    refine ⟨t', h1, fun j w hj => ?_⟩
    rcases h2 j w hj with ⟨u', h3, h4, h5⟩ | h3
    · exact .inl ⟨u', by omega, by rw [show j - i = (j - Nat.succ i) + 1 by omega]; simpa using h4, h5⟩
    · rw [T.get_up] at h3
      split at h3
      · rename_i e
        subst e
        simp only [Option.some.injEq] at h3
        subst h3
        exact .inl ⟨u, Nat.le_refl _, by simp, hr.1⟩
      · exact .inr h3
  | [], _ :: _, _, _, _, _, _, hr => by simp [RvL] at hr
  | _ :: _, [], _, _, _, _, _, hr => by simp [RvL] at hr

theorem enterRegs_len {ρ : Nm} {n : Nat} {l : List V} {x : List Value} (hr : RvL ρ n l x) {k : T V → R} {r : Ex × St} (h : enterRegs l 0 .e k = some r) {nt : Nat} (hn : len l ≤ nt) :
    ∃ t', k t' = some r ∧ RegsOk ρ n t' (x.toArray ++ Array.replicate (nt - x.toArray.size) undef) ∧ (x.toArray ++ Array.replicate (nt - x.toArray.size) undef).size = nt := by
  have hlen := hr.length
  rw [len_eq] at hn
  obtain ⟨t', h1, h2⟩ := enterRegs_ok l x 0 .e h hr
  refine ⟨t', h1, fun j v hj => ?_, by simp; omega⟩
  rcases h2 j v hj with ⟨u, _, h3, h4⟩ | h3
  · refine ⟨u, ?_, h4⟩
    simp only [Nat.sub_zero] at h3
    have := (List.getElem?_eq_some_iff.1 h3).1
    rw [Array.getElem?_append_left (by simpa using this)]
    simpa using h3
  · simp [T.get] at h3

section
variable {P : Program} {E : Env} {n bar : Nat} {F : Fence}

theorem takeDf_ok {ρ : Nm} {n bar : Nat} : ∀ (l : List Nat) (ds : List Deferred) (h : T O) (w : World) {k : T O → R} {r : Ex × St}, takeDf bar l h k = some r → HSat ρ h.get n w → RvD ρ n l ds →
    ∃ h' w', k h' = some r ∧ HSat ρ h'.get n w' ∧ Fr (Own ρ h.get bar) w (Own ρ h'.get bar) w' ∧
      ∀ fn tm R, LeavesInM F 0 P fn tm R [] .returning w' → LeavesInM F 0 P fn tm R ds .returning w
  | [], [], h, w, k, r, hk, hS, _ => ⟨h, w, hk, hS, Fr.refl _ _, fun _ _ _ h => h⟩
  | d :: l, x :: ds, h, w, k, r, hk, hS, hD => by
    simp only [RvD] at hD
    obtain ⟨hd, ⟨L, hL, hx⟩, hD⟩ := hD
    simp only [takeDf] at hk
    split at hk
    · rename_i hg hb
      rw [T.set_eq] at hk
      have hob := (hS.objs d _ hg).2
      simp only [ObjOk] at hob
      obtain ⟨L', hL', hh⟩ := hob
      rw [hL] at hL'; cases hL'
      obtain ⟨h1, h2⟩ := setObj_ok (bar := bar) hS hL hg (by simpa [geB] using hb) (o' := .dfr false) (ob := .deferred none) (w' := w.putObj L.b (.deferred none)) rfl ⟨rfl, rfl, rfl⟩
        (by simp only [ObjOk]; exact ⟨L, hL, World.putObj_heap_same (hS.blk d L hL)⟩)
      obtain ⟨h', w', h3, h4, h5, h6⟩ := takeDf_ok l ds _ _ hk h1 hD
      refine ⟨h', w', h3, h4, h2.trans h5, fun fn tm R hR => ?_⟩
      refine ⟨by simp, .inl ⟨L.b, _, by rw [hx], ?_, h6 fn tm R hR⟩⟩
      exact run_takeDeferred (by simpa using hh)
    · cases hk
  | [], _ :: _, _, _, _, _, _, _, hD => by simp [RvD] at hD
  | _ :: _, [], _, _, _, _, _, _, hD => by simp [RvD] at hD

def resSem (tmps : Array Value) : ResultVar → Sem Value
  | .tmp t => pure (tmps.getD t undef)
  | .cell y t => do loadVar t (← asAddr (tmps.getD y undef))

variable (hE : EnvOk E P)
include hE

theorem resultsX_ok {ρ : Nm} {g : T O} {w : World} (hS : HSat ρ g.get n w) {regs : T V} {tm : Array Value} (hR : RegsOk ρ n regs tm) : ∀ (l : List ResultVar) {k : List V → R} {r : Ex × St}, resultsX E regs g l k = some r →
    ∃ vs us, k vs = some r ∧ RvL ρ n vs us ∧ (l.mapM (resSem tm)).run P w = .ok us w
  | [], k, r, h => ⟨[], [], h, by simp [RvL], by simp⟩
  | .tmp t :: l, k, r, h => by
    simp only [resultsX] at h
    split at h
    · rename_i v hv
      obtain ⟨vs, us, h1, h2, h3⟩ := resultsX_ok hS hR l h
      obtain ⟨u, hu, hr⟩ := hR t v hv
      refine ⟨v :: vs, u :: us, h1, by simp only [RvL]; exact ⟨hr, h2⟩, ?_⟩
      rw [List.mapM_cons, Sem.run_bind]
      simp only [resSem, Sem.run_pure, Result.andThen_ok]
      rw [Sem.run_bind, h3, Result.andThen_ok, Sem.run_pure, Array.getD_eq_getD_getElem?, hu]
      rfl
    · cases h
  | .cell y t :: l, k, r, h => by
    simp only [resultsX] at h
    split at h
    · rename_i ty id off hty hy
      split at h
      · rename_i c m hg
        split at h
        · rename_i hle
          have hle : off + ty.size ≤ m := by simpa using hle
          obtain ⟨u0, hu0, hr0⟩ := hR y _ hy
          simp only [Rv] at hr0
          obtain ⟨_, L, hL, rfl⟩ := hr0
          obtain ⟨l1, xs, L', cur, tt, h1, h2, h3, h4, h5, h6, h7, h8, h9, h10⟩ := cells_read hS hg hle h
          rw [hL] at h5; cases h5
          obtain ⟨v, u, g1, g2, g3⟩ := run_loadVar hE hty w ⟨L.b, L.base + off, none⟩ h3 h2 h10 h1
          obtain ⟨vs, us, f1, f2, f3⟩ := resultsX_ok hS hR l g1
          refine ⟨v :: vs, u :: us, f1, by simp only [RvL]; exact ⟨g2, f2⟩, ?_⟩
          have haddr : tm.getD y undef = .pointer (some ⟨L.b, L.base + off, none⟩) := by rw [Array.getD_eq_getD_getElem?, hu0]; rfl
          rw [List.mapM_cons, Sem.run_bind]
          have : (resSem tm (.cell y t)).run P w = .ok u w := by simp [resSem, haddr, asAddr, g3]
          rw [this, Result.andThen_ok, Sem.run_bind, f3, Result.andThen_ok, Sem.run_pure]
        · cases h
      · cases h
    · cases h

omit hE in
theorem results_run {fn : Func} {tm : Array Value} {w : World} {us : List Value} (h : (fn.results.toList.mapM (resSem tm)).run P w = .ok us w) {ρ : Nm} {vs : List V} (hv : RvL ρ n vs us) :
    ∃ u, (results fn tm).run P w = .ok u w ∧ Rv ρ n (one vs) u := by
  have e : (results fn tm).run P w = .ok (let vs := us.toArray; if h : vs.size = 1 then vs[0] else .tuple vs) w := by
    have e1 : results fn tm = (do
        let vs ← fn.results.mapM (resSem tm)
        pure (if h : vs.size = 1 then vs[0] else .tuple vs)) := by
      unfold results
      congr 1
    rw [e1, Array.mapM_eq_mapM_toList, map_eq_pure_bind, Sem.run_bind, Sem.run_bind, h, Result.andThen_ok, Sem.run_pure, Result.andThen_ok, Sem.run_pure]
  rw [e]
  refine ⟨_, rfl, ?_⟩
  match vs, us, hv with
  | [], [], hv => simp [one, Rv, RvL]
  | [v], [u], hv => simpa [one, RvL] using hv
  | v :: v' :: vs, u :: u' :: us, hv => simp only [one, Rv]; exact ⟨_, hv, by simp⟩
  | [], _ :: _, hv => simp [RvL] at hv
  | _ :: _, [], hv => simp [RvL] at hv
  | [_], _ :: _ :: _, hv => simp [RvL] at hv
  | _ :: _ :: _, [_], hv => simp [RvL] at hv

variable {ih : IH} (hI : IhOk P ih)
include hI

theorem callF_ok {ρ : Nm} {g : T O} {w : World} (hS : HSat ρ g.get n w) {f : Nat} {args : List V} {xs : List Value} (ha : RvL ρ n args xs) {k : V → T O → Nat → R} {r : Ex × St} (h : callF E ih bar g n f args k = some r) :
    ∃ v g' n' fn, k v g' n' = some r ∧ E.fn f = some fn ∧ fn.body.isSome = true ∧ ∀ ro, CallsIn (Fw ro) 0 P f xs.toArray w (CallPost ρ g.get n bar w v g'.get n') := by
  unfold callF at h
  split at h
  · rename_i fn hfn
    obtain ⟨hf, hname⟩ := hE.fn f fn hfn
    split at h
    · rename_i c hb hle
      obtain ⟨regs, h1, h2, h3⟩ := enterRegs_len ha h (by simpa using hle)
      have hSat : Sat ρ ⟨fn.ntmps, bar, regs, g, n, []⟩ { tmps := xs.toArray ++ Array.replicate (fn.ntmps - xs.toArray.size) undef, defers := [] } w := ⟨hS, h3, h2, by simp [RvD]⟩
      have fin : ∀ {e : Ex} {nt' bar' : Nat} {regs' : T V} {h' : T O} {nx' : Nat} {df' : List Nat}, ih none c ⟨fn.ntmps, bar, regs, g, n, []⟩ = some (e, ⟨nt', bar', regs', h', nx', df'⟩) → (e = .normal ∨ e = .ret) →
          outV (takeDf bar df' h' fun h => resultsX E regs' h fn.results.toList fun l => retV (one l) h nx') k = some r →
          ∃ v g' n' fn, k v g' n' = some r ∧ E.fn f = some fn ∧ fn.body.isSome = true ∧ ∀ ro, CallsIn (Fw ro) 0 P f xs.toArray w (CallPost ρ g.get n bar w v g'.get n') := by
        intro e nt' bar' regs' h' nx' df' he hee hk
        obtain ⟨r0, v, g', n', hr0, hk, hv⟩ := outV_ok hk
        refine ⟨v, g', n', fn, hk, hfn, by simp [hb], fun ro => ?_⟩
        have hw := hI none c _ _ _ he ρ _ w hSat (fun _ h => by cases h)
        refine callsFw (callsIn_wide.1 (callsIn_of_wp_marks hf hb trivial (wpIn_mono hw ?_)))
        rintro x a' w' ⟨rfl, ρ', hL⟩
        have hlv : LeavesInM Fence.wide 0 P fn a'.tmps (CallPost ρ g.get n bar w v g'.get n') a'.defers .returning w' := by
          obtain ⟨h2, w2, e1, e2, e3, e4⟩ := takeDf_ok (P := P) df' a'.defers h' w' hr0 hL.sat.hs hL.sat.df
          obtain ⟨vs, us, f1, f2, f3⟩ := resultsX_ok hE e2 hL.sat.regs _ e1
          obtain ⟨rfl, rfl, rfl⟩ := hv _ _ _ f1
          obtain ⟨u, d1, d2⟩ := results_run f3 f2
          refine e4 _ _ _ ?_
          simp only [LeavesInM, LeavesIn]
          have hbar := hL.bar
          simp only at hbar
          subst hbar
          exact ⟨u, d1, u, ρ', rfl, d2, e2, hL.ag, hL.le, hL.fr.trans e3⟩
        rcases hee with rfl | rfl
        · exact hlv
        · exact hlv
      split at h1
      · rename_i he
        exact fin he (.inl rfl) h1
      · rename_i he
        exact fin he (.inr rfl) h1
      · cases h1
    · cases h
  · cases h
end
end CX

/-
  CX: calls of yield; any operation; operations in order.
-/
namespace CX
open Go

theorem setLoop_ok {bar : Nat} {h : T O} {id : Nat} {st : LoopState} {j : Option Code} {k : T O → R} {r : Ex × St} (hk : setLoop bar h id st j k = some r) :
    ∃ st0 j0 nt regs ps a b df, h.get id = some (.loop st0 j0 nt regs ps a b df) ∧ bar ≤ id ∧ k (h.up id (some (.loop st j nt regs ps a b df))) = some r := by
  unfold setLoop at hk
  split at hk
  · rename_i hg hb
    rw [T.set_eq] at hk
    exact ⟨_, _, _, _, _, _, _, _, hg, by simpa [geB] using hb, hk⟩
  · cases hk

section
variable {P : Program} {n bar : Nat}

theorem loopObj {ρ : Nm} {g : Nat → Option O} {w : World} (hS : HSat ρ g n w) {id : Nat} {st : LoopState} {j : Option Code} {nt : Nat} {regs : T V} {ps : List Nat} {a b : Code} {df : Nat} (hg : g id = some (.loop st j nt regs ps a b df)) :
    ∃ L D fn tm, id < n ∧ ρ id = some L ∧ df < n ∧ ρ df = some D ∧ tm.size = nt ∧ RegsOk ρ n regs tm ∧ w.heap[L.b]? = some (.loop { state := st, pending := j, fn := fn, tmps := tm, params := ps.toArray, assign := a, body := b, defers := D.b }) ∧ L.b < w.heap.size := by
  obtain ⟨h0, h⟩ := hS.objs id _ hg
  simp only [ObjOk] at h
  obtain ⟨L, fn, tm, D, h1, h2, h3, h4, h5, h6⟩ := h
  exact ⟨L, D, fn, tm, h0, h1, h2, h3, h4, h5, h6, hS.blk _ _ h1⟩

/-- The record of a loop is set. -/
theorem putLoop_ok {ρ : Nm} {g : T O} {w : World} (hS : HSat ρ g.get n w) {id : Nat} {st : LoopState} {j : Option Code} {nt : Nat} {regs : T V} {ps : List Nat} {a b : Code} {df : Nat} (hg : g.get id = some (.loop st j nt regs ps a b df)) (hbar : bar ≤ id)
    {L D : Loc} {fn : FuncId} {tm : Array Value} (h1 : ρ id = some L) (h2 : df < n) (h3 : ρ df = some D) (h4 : tm.size = nt) (h5 : RegsOk ρ n regs tm) (st' : LoopState) (j' : Option Code) :
    HSat ρ (g.up id (some (.loop st' j' nt regs ps a b df))).get n (w.putObj L.b (.loop { state := st', pending := j', fn := fn, tmps := tm, params := ps.toArray, assign := a, body := b, defers := D.b })) ∧
    Fr (Own ρ g.get bar) w (Own ρ (g.up id (some (.loop st' j' nt regs ps a b df))).get bar) (w.putObj L.b (.loop { state := st', pending := j', fn := fn, tmps := tm, params := ps.toArray, assign := a, body := b, defers := D.b })) :=
  setObj_ok (bar := bar) hS h1 hg hbar rfl ⟨rfl, rfl, rfl⟩ (by
    simp only [ObjOk]
    exact ⟨L, fn, tm, D, h1, h2, h3, h4, h5, World.putObj_heap_same (hS.blk _ _ h1)⟩)

theorem paramsX_ok {ρ : Nm} {nt : Nat} : ∀ (ps : List Nat) (vs : List V) (xs : List Value) (regs : T V) (tm : Array Value) {k : T V → R} {r : Ex × St}, paramsX nt ps vs regs k = some r → RvL ρ n vs xs → RegsOk ρ n regs tm → tm.size = nt →
    ps.length = xs.length ∧ ∃ regs', k regs' = some r ∧ RegsOk ρ n regs' ((ps.zip xs).foldl (fun tm (t, a) => tm.setIfInBounds t a) tm) ∧ ((ps.zip xs).foldl (fun tm (t, a) => tm.setIfInBounds t a) tm).size = nt
  | [], [], [], regs, tm, k, r, h, _, hR, hs => ⟨rfl, regs, h, hR, hs⟩
  | p :: ps, v :: vs, x :: xs, regs, tm, k, r, h, hv, hR, hs => by
    simp only [RvL] at hv
    simp only [paramsX] at h
    split at h
    · rename_i hp
      rw [T.set_eq] at h
      have hp : p < nt := by simpa [Nat.blt_eq] using hp
      have hR' : RegsOk ρ n (regs.up p (some v)) (tm.setIfInBounds p x) := by
        intro t y ht
        rw [T.get_up] at ht
        split at ht
        · rename_i e
          subst e
          simp only [Option.some.injEq] at ht
          subst ht
          exact ⟨x, by simp [hs, hp], hv.1⟩
        · rename_i e
          obtain ⟨u, h1, h2⟩ := hR t y ht
          exact ⟨u, by rw [Array.getElem?_setIfInBounds_ne (Ne.symm e)]; exact h1, h2⟩
      obtain ⟨h1, h2⟩ := paramsX_ok ps vs xs _ _ h hv.2 hR' (by simpa using hs)
      exact ⟨by simp [h1], by simpa using h2⟩
    · cases h
  | [], [], _ :: _, _, _, _, _, _, hv, _, _ => by simp [RvL] at hv
  | [], _ :: _, _, _, _, _, _, h, _, _, _ => by simp [paramsX] at h
  | _ :: _, [], _, _, _, _, _, h, _, _, _ => by simp [paramsX] at h
  | _ :: _, _ :: _, [], _, _, _, _, _, hv, _, _ => by simp [RvL] at hv

variable {ih : IH} (hI : IhOk P ih)
include hI

theorem callY_ok {ρ : Nm} {g : T O} {w : World} (hS : HSat ρ g.get n w) {id : Nat} {L : Loc} (hL : ρ id = some L) {args : List V} {xs : List Value} (ha : RvL ρ n args xs) {k : V → T O → Nat → R} {r : Ex × St} (h : callY ih bar g n id args k = some r) :
    ∃ v g' n' f tm assign body, k v g' n' = some r ∧ (Instr.yield L.b xs.toArray).run P w = .ok (.round L.b f tm assign body) w ∧
      ∀ ro, RoundIn (Fw ro) 0 P L.b f tm assign body w (CallPost ρ g.get n bar w v g'.get n') := by
  unfold callY at h
  split at h
  · rename_i j0 nt regs ps assign body df hg
    obtain ⟨L', D, fn, tm, hid, hL', hdf, hD, hsz, hR, hh, hb⟩ := loopObj hS hg
    rw [hL] at hL'; cases hL'
    obtain ⟨hlen, regs1, h, hR1, hsz1⟩ := paramsX_ok _ _ _ _ _ h ha hR hsz
    have hrun : (Instr.yield L.b xs.toArray).run P w = .ok (.round L.b fn ((ps.zip xs).foldl (fun tm (t, a) => tm.setIfInBounds t a) tm) assign body) w := by
      rw [run_yield hh (by simp [hlen])]
      simp
    have hSat : Sat ρ ⟨nt, bar, regs1, g, n, []⟩ { tmps := (ps.zip xs).foldl (fun tm (t, a) => tm.setIfInBounds t a) tm, defers := [] } w := ⟨hS, hsz1, hR1, by simp [RvD]⟩
    have hrd : RdOk ρ n (some id) := fun i e => by cases e; exact ⟨hid, L, hL⟩
    split at h
    · rename_i nt1 bar1 regs2 g1 n1 df1 he1
      split at h
      · rename_i j2 nt2 regs3 ps2 a2 b2 df2 hg1 hbar
        rw [T.set_eq] at h
        have hw1 := hI (some id) assign _ _ _ he1 ρ _ w hSat hrd
        rw [show rdB ρ (some id) = some L.b by simp [rdB, hL]] at hw1
        have fin : ∀ {e : Ex} {S3 : St} {st : LoopState} {j : Option Code} {b : Bool}, ih (some id) body ⟨nt, bar, regs2, g1.up id (some (.loop .busy j2 nt2 regs3 ps2 a2 b2 df2)), n1, df1⟩ = some (e, S3) →
            (∀ R w3, (∃ v w4, (Instr.endRound L.b j).run P w3 = .ok v w4 ∧ R (.returned v) w4) → ∀ a3, roundPost P L.b R (exO e) a3 w3) → b = j.isNone → st = (if j.isNone then .ready else .done) →
            outV (setLoop bar S3.h id st j fun h => retV (.bool b) h S3.nx) k = some r →
            ∃ v g' n' f tm assign body, k v g' n' = some r ∧ (Instr.yield L.b xs.toArray).run P w = .ok (.round L.b f tm assign body) w ∧
              ∀ ro, RoundIn (Fw ro) 0 P L.b f tm assign body w (CallPost ρ g.get n bar w v g'.get n') := by
          intro e S3 st j b he2 hround hbj hst hk
          obtain ⟨r0, v, g', n', hr0, hk, hv⟩ := outV_ok hk
          refine ⟨v, g', n', fn, _, assign, body, hk, hrun, fun ro => roundIn_of_wpIn trivial (wpIn_mono hw1 ?_)⟩
          rintro x a1 w1 ⟨rfl, ρ1, hL1⟩
          have e1 := hL1.nt
          have e2 := hL1.bar
          simp only at e1 e2
          subst e1 e2
          obtain ⟨L1, D1, fn1, tm1, hid1, hLL1, hdf1, hD1, hsz1', hR1', hh1, hb1⟩ := loopObj hL1.sat.hs hg1
          have hLe : L1 = L := by rw [hL1.ag id hid] at hLL1; rw [hL] at hLL1; exact (Option.some.inj hLL1).symm
          subst hLe
          obtain ⟨hS2, hF2⟩ := putLoop_ok hL1.sat.hs hg1 (by simpa [geB] using hbar) hLL1 hdf1 hD1 hsz1' hR1' (fn := fn1) .busy j2
          refine ⟨_, run_beginRound hh1 rfl, ?_⟩
          have hSat2 : Sat ρ1 ⟨nt1, bar1, regs2, g1.up id (some (.loop .busy j2 nt2 regs3 ps2 a2 b2 df2)), n1, df1⟩ a1 (w1.putObj L1.b (.loop { state := .busy, pending := j2, fn := fn1, tmps := tm1, params := ps2.toArray, assign := a2, body := b2, defers := D1.b })) := by
            exact ⟨hS2, hL1.sat.size, hL1.sat.regs, hL1.sat.df⟩
          have hw2 := hI (some id) body _ _ _ he2 ρ1 a1 _ hSat2 (fun i e => by cases e; exact ⟨hid1, L1, hLL1⟩)
          rw [show rdB ρ1 (some id) = some L1.b by simp [rdB, hLL1]] at hw2
          refine wpIn_mono hw2 ?_
          rintro x a3 w3 ⟨rfl, ρ3, hL3⟩
          refine hround _ _ ?_ _
          have e2 := hL3.bar
          simp only at e2
          subst e2
          obtain ⟨st0, j0', nt3, regs4, ps3, a3', b3, df3, hg3, hbar3, hr0⟩ := setLoop_ok hr0
          obtain ⟨L3, D3, fn3, tm3, hid3, hLL3, hdf3, hD3, hsz3, hR3, hh3, hb3⟩ := loopObj hL3.sat.hs hg3
          have hLe3 : L3 = L1 := by rw [hL3.ag id hid1] at hLL3; rw [hLL1] at hLL3; exact (Option.some.inj hLL3).symm
          subst hLe3
          obtain ⟨hS4, hF4⟩ := putLoop_ok hL3.sat.hs hg3 hbar3 hLL3 hdf3 hD3 hsz3 hR3 (fn := fn3) st j
          obtain ⟨rfl, rfl, rfl⟩ := hv _ _ _ hr0
          refine ⟨_, _, run_endRound j hh3, .bool j.isNone, ρ3, rfl, by simp only [Rv]; rw [hbj], ?_, hL1.ag.trans (hL3.ag.mono hL1.le), Nat.le_trans hL1.le hL3.le, ?_⟩
          · subst hst; exact hS4
          · subst hst; exact ((hL1.fr.trans hF2).trans hL3.fr).trans hF4
        split at h
        · rename_i he2
          exact fin he2 (fun R w3 hx a3 => hx) rfl rfl h
        · rename_i he2
          exact fin he2 (fun R w3 hx a3 => hx) rfl rfl h
        · rename_i he2
          exact fin he2 (fun R w3 hx a3 => hx) rfl rfl h
        · cases h
      · cases h
    · cases h
  · cases h

variable {E : Env} (hE : EnvOk E P)
include hE

/-- **Any operation.** -/
theorem opA_ok {ρ : Nm} {g : T O} {w : World} (hS : HSat ρ g.get n w) {o : Oper} {ev : Operand → Option V} {a : Act} (hev : ∀ x ∈ o.op.operands, ∀ v, ev x = some v → Rv ρ n v (a.eval x))
    {k : V → T O → Nat → R} {r : Ex × St} (h : opA E ih bar ev g n o.op k = some r) :
    ∃ v g' n', k v g' n' = some r ∧ ∀ (ro : Option Nat) (K : Act → World → Prop) (Q : Exit → Act → World → Prop),
      (∀ u ρ' w', Rv ρ' n' v u → HSat ρ' g'.get n' w' → agree n ρ ρ' → n ≤ n' → Fr (Own ρ g.get bar) w (Own ρ' g'.get bar) w' → K (a.put o.dst u) w') → o.wpIn (Fw ro) 0 P a w K Q := by
  have nd : ∀ m, clsOf E o.op = m → m ≠ 4 → ∀ c, o.op ≠ .defer c := by
    intro m hm hne c hc
    rw [hc] at hm
    simp [clsOf] at hm
    exact hne hm.symm
  unfold opA at h
  split at h
  · rename_i hc
    obtain ⟨v, u, h1, h2, h3⟩ := opP_ok hE (ρe := a.eval) hev h
    refine ⟨v, g, n, h1, fun ro K Q hK => ⟨fun _ _ => trivial, ?_⟩⟩
    show o.uponIn (Fw ro) 0 P a K Q ((o.semAt ro a.eval).run P w)
    rw [Oper.semAt_eq _ _ _ (nd _ hc (by decide)), h3 w, Oper.uponIn_value]
    exact hK u ρ w h2 hS (agree.refl _ _) (Nat.le_refl _) (Fr.refl _ _)
  · rename_i hc
    obtain ⟨v, u, h1, h2, h3⟩ := opL_ok hE hS (ρe := a.eval) hev hc h
    refine ⟨v, g, n, h1, fun ro K Q hK => ⟨fun _ _ => trivial, ?_⟩⟩
    show o.uponIn (Fw ro) 0 P a K Q ((o.semAt ro a.eval).run P w)
    rw [Oper.semAt_eq _ _ _ (nd _ hc (by decide)), h3, Oper.uponIn_value]
    exact hK u ρ w h2 hS (agree.refl _ _) (Nat.le_refl _) (Fr.refl _ _)
  · rename_i hc
    obtain ⟨v, g', n', h1, nxt, u, ρ', w', h2, h3, h4, h5, h6, h7, h8⟩ := opM_ok hE hS (ρe := a.eval) hev h
    refine ⟨v, g', n', h1, fun ro K Q hK => ⟨fun _ _ => trivial, ?_⟩⟩
    show o.uponIn (Fw ro) 0 P a K Q ((o.semAt ro a.eval).run P w)
    rw [Oper.semAt_eq _ _ _ (nd _ hc (by decide)), h2]
    have := hK u ρ' w' h4 h5 h6 h7 h8
    rcases h3 with rfl | ⟨rfl, rfl⟩
    · exact this
    · exact this
  · rename_i hc
    split at h
    · rename_i c ho
      split at h
      · rename_i f hcal
        split at h
        · rename_i fv hf
          have hfr := hev f (by simp [ho, Op.operands, Call.operands, hcal]) _ hf
          obtain ⟨vs, h1, h2⟩ := evL_ok' c.args.toList (ρe := a.eval) (fun x hx v => hev x (by simp [ho, Op.operands, Call.operands, hcal]; exact .inr (by simpa using hx)) v) h
          unfold callV at h1
          split at h1
          · rename_i f' fa fb
            simp only [Rv] at hfr
            obtain ⟨xa, xb, g1, g2, g3⟩ := hfr
            obtain ⟨v, g', n', fn, e1, e2, e3, e4⟩ := callF_ok hE hI hS (RvL.append (RvL.append g1 h2) g2) h1
            obtain ⟨hfn, hname⟩ := hE.fn _ _ e2
            have hname' : ¬ fn.name = "runtime.NumGoroutine" := hname
            refine ⟨v, g', n', e1, fun ro K Q hK => ⟨fun _ _ => trivial, ?_⟩⟩
            show o.uponIn (Fw ro) 0 P a K Q ((o.semAt ro a.eval).run P w)
            have hrun : (execOp a.eval o).run P w = .ok (.enter f' (xa ++ c.args.toList.map a.eval ++ xb).toArray) w := by
              simp [execOp, ho, resolve, hcal, g3, Deferred.ofValue, invoke, callFunc, hfn, hname', Option.isNone_iff_eq_none, Option.isSome_iff_ne_none.1 e3]
              try apply Array.ext'
              try simp
            rw [Oper.semAt_eq _ _ _ (nd _ hc (by decide)), hrun, Oper.uponIn_enter]
            refine ⟨fun h => by simp [Fw, Fence.wide] at h, CallsIn.mono (e4 ro) fun e w' he => ?_⟩
            obtain ⟨u, ρ', rfl, d1, d2, d3, d4, d5⟩ := he
            exact hK u ρ' w' d1 d2 d3 d4 d5
          · rename_i id
            simp only [Rv] at hfr
            obtain ⟨hid, L, xa, xb, hL, g1, g2, g3⟩ := hfr
            have e0 : xa = [] ∧ xb = [] := by
              constructor
              · cases xa with
                | nil => rfl
                | cons => simp [RvL] at g1
              · cases xb with
                | nil => rfl
                | cons => simp [RvL] at g2
            obtain ⟨rfl, rfl⟩ := e0
            obtain ⟨v, g', n', f', tm, as0, bd, e1, e2, e3⟩ := callY_ok hI hS hL h2 h1
            refine ⟨v, g', n', e1, fun ro K Q hK => ⟨fun _ _ => trivial, ?_⟩⟩
            show o.uponIn (Fw ro) 0 P a K Q ((o.semAt ro a.eval).run P w)
            have hrun : (execOp a.eval o).run P w = .ok (.round L.b f' tm as0 bd) w := by
              rw [← e2]
              simp [execOp, ho, resolve, hcal, g3, Deferred.ofValue, invoke]
              congr 2
              apply Array.ext'
              simp
            rw [Oper.semAt_eq _ _ _ (nd _ hc (by decide)), hrun, Oper.uponIn_round]
            refine ⟨fun h => by simp [Fw, Fence.wide] at h, RoundIn.mono (e3 ro) fun e w' he => ?_⟩
            obtain ⟨u, ρ', rfl, d1, d2, d3, d4, d5⟩ := he
            exact hK u ρ' w' d1 d2 d3 d4 d5
          · cases h1
        · cases h
      · cases h
    · cases h
  · cases h
end
end CX

/-
  CX: operations in order.
-/
namespace CX
open Go

theorem conv1_ok {ρ : Nm} {n : Nat} {u : Value} {v : V} (h : conv1 u = some v) : Rv ρ n v u := by
  unfold conv1 at h
  split at h <;> first | cases h; done | skip
  all_goals (simp only [Option.some.injEq] at h; subst h)
  all_goals simp only [Rv]
  rename_i s
  refine ⟨fun x hx => ?_, ?_⟩
  · obtain ⟨b, _, rfl⟩ := List.mem_map.1 hx
    exact b.toNat_lt
  · congr 1
    simp only [bytesOf, List.map_map]
    have : (UInt8.ofNat ∘ UInt8.toNat) = id := by funext x; simp
    rw [this, List.map_id]

theorem convL_ok {ρ : Nm} {n : Nat} : ∀ (us : List Value) {vs : List V}, convL us = some vs → RvL ρ n vs us
  | [], vs, h => by simp only [convL, Option.some.injEq] at h; subst h; simp [RvL]
  | u :: us, vs, h => by
    simp only [convL] at h
    split at h
    · rename_i v l hv hl
      simp only [Option.some.injEq] at h
      subst h
      simp only [RvL]
      exact ⟨conv1_ok hv, convL_ok us hl⟩
    · cases h

theorem conv_ok {ρ : Nm} {n : Nat} {u : Value} {v : V} (h : conv u = some v) : Rv ρ n v u := by
  unfold conv at h
  split at h
  · split at h
    · rename_i cs l hl
      simp only [Option.some.injEq] at h
      subst h
      simp only [Rv]
      exact ⟨_, convL_ok _ hl, rfl⟩
    · cases h
  · exact conv1_ok h

theorem evR_ok {ρ : Nm} {n : Nat} {regs : T V} {a : Act} (hR : RegsOk ρ n regs a.tmps) (x : Operand) (v : V) (h : evR regs x = some v) : Rv ρ n v (a.eval x) := by
  cases x with
  | tmp t =>
    obtain ⟨u, h1, h2⟩ := hR t v h
    have : a.eval (.tmp t) = u := by simp [Act.eval, Array.getD_eq_getD_getElem?, h1]
    rw [this]; exact h2
  | const c => exact conv_ok h
  | func f =>
    simp only [evR, Option.some.injEq] at h
    subst h
    simp only [Rv]
    exact ⟨[], [], by simp [RvL], by simp [RvL], rfl⟩
  | «global» g => cases h

noncomputable def upD (regs : T V) (dst : Option Nat) (v : V) : T V :=
  match dst with
  | none => regs
  | some d => regs.up d (some v)

theorem putD_ok {S : St} {dst : Option Nat} {v : V} {h : T O} {nx : Nat} {k : St → R} {r : Ex × St} (hk : putD S dst v h nx k = some r) :
    k ⟨S.nt, S.bar, upD S.regs dst v, h, nx, S.df⟩ = some r ∧ ∀ d, dst = some d → d < S.nt := by
  cases dst with
  | none => exact ⟨hk, fun d h => by cases h⟩
  | some d =>
    simp only [putD] at hk
    split at hk
    · rename_i hd
      rw [T.set_eq] at hk
      exact ⟨hk, fun d' h => by cases h; simpa [Nat.blt_eq] using hd⟩
    · cases hk

theorem put_ok {ρ : Nm} {n nt : Nat} {regs : T V} {a : Act} {dst : Option Nat} {v : V} {u : Value} (hR : RegsOk ρ n regs a.tmps) (hv : Rv ρ n v u) (hs : a.tmps.size = nt) (hd : ∀ d, dst = some d → d < nt) :
    RegsOk ρ n (upD regs dst v) (a.put dst u).tmps ∧ (a.put dst u).tmps.size = nt ∧ (a.put dst u).defers = a.defers := by
  cases dst with
  | none => exact ⟨hR, hs, rfl⟩
  | some d =>
    refine ⟨fun t y ht => ?_, by simp [Act.put, hs], rfl⟩
    have hd := hd d rfl
    simp only [upD] at ht
    rw [T.get_up] at ht
    simp only [Act.put]
    split at ht
    · rename_i e
      subst e
      simp only [Option.some.injEq] at ht
      subst ht
      exact ⟨u, by simp [hs, hd], hv⟩
    · rename_i e
      obtain ⟨u', h1, h2⟩ := hR t y ht
      exact ⟨u', by rw [Array.getElem?_setIfInBounds_ne (Ne.symm e)]; exact h1, h2⟩

theorem wantX_ok {regs : T V} {all : Array Oper} {o : Oper} {k : Bool → R} {r : Ex × St} (h : wantX regs all.toList o k = some r) {ρ : Nm} {n : Nat} {a : Act} (hR : RegsOk ρ n regs a.tmps) :
    k (Region.wanted o (yielded all a.tmps)) = some r := by
  unfold wantX at h
  split at h
  · rename_i hg
    simpa [Region.wanted, hg] using h
  · rename_i g want hg
    split at h
    · rename_i og hog
      split at h
      · rename_i d hd
        rw [nth_eq] at hog
        have hd' : (all[g]?).bind (·.dst) = some d := by
          rw [Array.getElem?_toList] at hog
          simp [hog, hd]
        split at h
        · rename_i b hb
          obtain ⟨u, h1, h2⟩ := hR d _ hb
          simp only [Rv] at h2
          subst h2
          have hw : Region.wanted o (yielded all a.tmps) = (b == want) := by
            simp only [Region.wanted, hg, yielded, hd', Option.bind_some, h1]
            cases b <;> cases want <;> rfl
          rw [hw]
          split at h
          · exact h
          · exact h
          · rename_i h3 h4
            cases b <;> cases want <;> first | exact h | exact (h3 rfl rfl).elim | exact (h4 rfl rfl).elim
        · rename_i hb
          obtain ⟨u, h1, h2⟩ := hR d _ hb
          simp only [Rv] at h2
          obtain ⟨x, hx, rfl⟩ := h2
          have hw : Region.wanted o (yielded all a.tmps) = false := by
            simp only [Region.wanted, hg, yielded, hd', Option.bind_some, h1]
            cases want <;> rfl
          rw [hw]; exact h
        · cases h
      · cases h
    · cases h

section
variable {P : Program} {E : Env} (hE : EnvOk E P) {ih : IH} (hI : IhOk P ih) {ro : Option Nat}
include hE hI

theorem seqOps_ok (all : Array Oper) {ρ0 : Nm} {S0 : St} {w0 : World} : ∀ (rest : List Oper) (i : Nat) (S : St) {k : St → R} {r : Ex × St}, (∀ (j : Nat), rest[j]? = all[i + j]?) → seqOps E ih all.toList rest S k = some r →
    ∀ {ρ : Nm} {a : Act} {w : World}, Lands ρ0 S0 w0 S a w ρ → ∀ {Q : Exit → Act → World → Prop}, (∀ S' ρ' a' w', k S' = some r → Lands ρ0 S0 w0 S' a' w' ρ' → Q .normal a' w') →
    wpOpsIn (Fw ro) 0 P all Q (List.range' i rest.length) a w
  | [], i, S, k, r, _, h, ρ, a, w, hL, Q, hQ => by
    simp only [List.length_nil, List.range'_zero, wpOpsIn]
    exact hQ S ρ a w h hL
  | o :: rest, i, S, k, r, hall, h, ρ, a, w, hL, Q, hQ => by
    have h0 : all[i]? = some o := by simpa using (hall 0).symm
    have hall' : ∀ (j : Nat), rest[j]? = all[i + 1 + j]? := fun j => by have := hall (j + 1); simpa [Nat.add_assoc, Nat.add_comm 1 j] using this
    simp only [List.length_cons, List.range'_succ, wpOpsIn, h0]
    simp only [seqOps] at h
    have h := wantX_ok h hL.sat.regs
    cases hw : Region.wanted o (yielded all a.tmps) with
    | true =>
      rw [hw] at h
      simp only at h
      rw [if_pos rfl]
      obtain ⟨v, g', n', h1, h2⟩ := opA_ok hI hE hL.sat.hs (fun x _ v hv => evR_ok hL.sat.regs x v hv) h
      refine h2 ro _ _ fun u ρ' w' hv hS' hag hn hfr => ?_
      obtain ⟨h3, hd⟩ := putD_ok h1
      have hR' : RegsOk ρ' n' S.regs a.tmps := hL.sat.regs.ext hn (fun i L hi hl => by rw [hag i hi]; exact hl)
      obtain ⟨g1, g2, g3⟩ := put_ok hR' hv hL.sat.size hd
      exact seqOps_ok all rest (i + 1) _ hall' h3 (hL.trans ⟨⟨hS', g2, g1, by rw [g3]; exact hL.sat.df.ext hn (fun i L hi hl => by rw [hag i hi]; exact hl)⟩, hag, hn, rfl, rfl, hfr⟩) hQ
    | false =>
      rw [hw] at h
      simp only at h
      simp only [Bool.false_eq_true, if_false]
      refine ⟨fun _ _ => trivial, ?_⟩
      obtain ⟨h3, hd⟩ := putD_ok h
      obtain ⟨g1, g2, g3⟩ := put_ok (u := undef) hL.sat.regs (v := .tup []) (by simp only [Rv]; exact ⟨[], by simp [RvL], rfl⟩) hL.sat.size hd
      exact seqOps_ok all rest (i + 1) _ hall' h3 (hL.trans ⟨⟨hL.sat.hs, g2, g1, by rw [g3]; exact hL.sat.df⟩, agree.refl _ _, Nat.le_refl _, rfl, rfl, Fr.refl _ _⟩) hQ
end
end CX

/-
  CX: drawn regions: what the executor's bookkeeping says.
-/
namespace CX
open Go

/-! ### Bits -/

theorem bit_eq (m i : Nat) : bit m i = m.testBit i := by
  rw [Nat.testBit_eq_decide_div_mod_eq]
  unfold bit
  rw [Bool.eq_iff_iff, Nat.beq_eq, decide_eq_true_eq]
  rw [show Nat.shiftRight m i = m / 2 ^ i from Nat.shiftRight_eq_div_pow m i, show Nat.land (m / 2 ^ i) 1 = m / 2 ^ i % 2 from Nat.and_one_is_mod _]

theorem lor_bit (a m e j : Nat) : (Nat.lor a (Nat.lor m (Nat.shiftLeft 1 e))).testBit j = true ↔ a.testBit j = true ∨ m.testBit j = true ∨ j = e := by
  show (a ||| (m ||| 1 <<< e)).testBit j = true ↔ _
  rw [Nat.testBit_or, Nat.testBit_or, Nat.testBit_shiftLeft]
  have : (decide (j ≥ e) && Nat.testBit 1 (j - e)) = true ↔ j = e := by
    rw [Bool.and_eq_true, decide_eq_true_eq, Nat.testBit_one_eq_true_iff_self_eq_zero]
    omega
  rw [Bool.or_eq_true, Bool.or_eq_true, this]

theorem maskOf_ok {β : Type} {cl : T Nat} : ∀ (l : List Edge) (acc : Nat) {k : Nat → Option β} {r : β}, maskOf cl l acc k = some r →
    ∃ m, k m = some r ∧ (∀ j, m.testBit j = true → acc.testBit j = true ∨ ∃ e ∈ l, bindsA e = true ∧ (j = e.on ∨ ∃ me, cl.get e.on = some me ∧ me.testBit j = true)) ∧
      (∀ e ∈ l, bindsA e = true → ∃ me, cl.get e.on = some me ∧ m.testBit e.on = true) ∧ (∀ j, acc.testBit j = true → m.testBit j = true)
  | [], acc, k, r, h => ⟨acc, h, fun j hj => .inl hj, fun e he => by simp at he, fun _ h => h⟩
  | e :: l, acc, k, r, h => by
    simp only [maskOf] at h
    split at h
    · rename_i hb
      obtain ⟨m, h1, h2, h3, h4⟩ := maskOf_ok l acc h
      refine ⟨m, h1, fun j hj => (h2 j hj).imp id fun ⟨e', g1, g2⟩ => ⟨e', by simp [g1], g2⟩, fun e' he' hbe => ?_, h4⟩
      rcases List.mem_cons.1 he' with rfl | he'
      · rw [hb] at hbe; cases hbe
      · exact h3 e' he' hbe
    · rename_i hb
      split at h
      · rename_i me hme
        rw [fN_eq] at h
        obtain ⟨m, h1, h2, h3, h4⟩ := maskOf_ok l _ h
        refine ⟨m, h1, fun j hj => ?_, fun e' he' hbe => ?_, fun j hj => h4 j ((lor_bit _ _ _ _).2 (.inl hj))⟩
        · rcases h2 j hj with h | ⟨e', g1, g2⟩
          · rcases (lor_bit _ _ _ _).1 h with h | h | h
            · exact .inl h
            · exact .inr ⟨e, by simp, hb, .inr ⟨me, hme, h⟩⟩
            · exact .inr ⟨e, by simp, hb, .inl h⟩
          · exact .inr ⟨e', by simp [g1], g2⟩
        · rcases List.mem_cons.1 he' with rfl | he'
          · exact ⟨me, hme, h4 _ ((lor_bit _ _ _ _).2 (.inr (.inr rfl)))⟩
          · exact h3 e' he' hbe
      · cases h

structure PrepOk (ops : List Oper) (ms dm : T Nat) : Prop where
  hm : ∀ (i : Nat) o, ops[i]? = some o → ∃ m, ms.get i = some m ∧ (∀ j, m.testBit j = true → ∃ e ∈ o.after.toList, bindsA e = true ∧ (j = e.on ∨ ∃ me, ms.get e.on = some me ∧ me.testBit j = true)) ∧
    ∀ e ∈ o.after.toList, bindsA e = true → e.on < i
  lt : ∀ i m j, ms.get i = some m → m.testBit j = true → j < i
  hd : ∀ (i : Nat) o d, ops[i]? = some o → o.dst = some d → dm.get d = some i
  nms : ∀ i m, ms.get i = some m → i < ops.length

theorem prep_ok {β : Type} : ∀ (rest pre : List Oper) (ms dm : T Nat) {k : T Nat → T Nat → Option β} {r : β}, prep rest pre.length ms dm k = some r → PrepOk pre ms dm →
    ∃ ms' dm', k ms' dm' = some r ∧ PrepOk (pre ++ rest) ms' dm'
  | [], pre, ms, dm, k, r, h, hp => ⟨ms, dm, h, by simpa using hp⟩
  | o :: rest, pre, ms, dm, k, r, h, hp => by
    simp only [prep] at h
    obtain ⟨m, h, h2, h3, _⟩ := maskOf_ok _ _ h
    rw [T.set_eq] at h
    have old : ∀ i x, ms.get i = some x → (ms.up pre.length (some m)).get i = some x := fun i x hx => by
      rw [T.get_up, if_neg (Nat.ne_of_lt (hp.nms i x hx))]; exact hx
    have back : ∀ i x, i < pre.length → (ms.up pre.length (some m)).get i = some x → ms.get i = some x := fun i x hi hx => by
      rw [T.get_up, if_neg (Nat.ne_of_lt hi)] at hx; exact hx
    have hlt0 : ∀ j, m.testBit j = true → j < pre.length := by
      intro j hj
      rcases h2 j hj with h | ⟨e, he, hb, h⟩
      · simp at h
      · obtain ⟨me, hme, _⟩ := h3 e he hb
        rcases h with rfl | ⟨me', hme', h⟩
        · exact hp.nms _ _ hme
        · rw [hme] at hme'; cases hme'
          exact Nat.lt_trans (hp.lt _ _ _ hme h) (hp.nms _ _ hme)
    have mk : ∀ dm', (∀ (i : Nat) o' d, (pre ++ [o])[i]? = some o' → o'.dst = some d → dm'.get d = some i) → PrepOk (pre ++ [o]) (ms.up pre.length (some m)) dm' := by
      intro dm' hdm
      refine ⟨fun i o' ho => ?_, fun i x j hx hj => ?_, hdm, fun i x hx => ?_⟩
      · by_cases hi : i < pre.length
        · rw [List.getElem?_append_left hi] at ho
          obtain ⟨x, g1, g2, g3⟩ := hp.hm i o' ho
          refine ⟨x, old i x g1, fun j hj => ?_, g3⟩
          obtain ⟨e, he, hb, h⟩ := g2 j hj
          exact ⟨e, he, hb, h.imp id fun ⟨me, hme, hj⟩ => ⟨me, old _ _ hme, hj⟩⟩
        · rw [List.getElem?_append_right (by omega)] at ho
          have hi' : i - pre.length = 0 := by
            cases hh : i - pre.length with
            | zero => rfl
            | succ q => rw [hh] at ho; simp at ho
          have hi : i = pre.length := by omega
          subst hi
          simp only [Nat.sub_self, List.getElem?_cons_zero, Option.some.injEq] at ho
          subst ho
          refine ⟨m, by rw [T.get_up, if_pos rfl], fun j hj => ?_, fun e he hb => ?_⟩
          · rcases h2 j hj with h | ⟨e, he, hb, h⟩
            · simp at h
            · exact ⟨e, he, hb, h.imp id fun ⟨me, hme, hj⟩ => ⟨me, old _ _ hme, hj⟩⟩
          · obtain ⟨me, hme, _⟩ := h3 e he hb
            exact hp.nms _ _ hme
      · rw [T.get_up] at hx
        split at hx
        · rename_i e
          simp only [Option.some.injEq] at hx
          subst hx e
          exact hlt0 j hj
        · exact hp.lt i x j hx hj
      · rw [T.get_up] at hx
        rw [List.length_append]
        split at hx
        · rename_i e; subst e; simp
        · have := hp.nms i x hx; omega
    have fin : ∀ dm', prep rest (Nat.succ pre.length) (ms.up pre.length (some m)) dm' k = some r → (∀ (i : Nat) o' d, (pre ++ [o])[i]? = some o' → o'.dst = some d → dm'.get d = some i) →
        ∃ ms' dm', k ms' dm' = some r ∧ PrepOk (pre ++ o :: rest) ms' dm' := by
      intro dm' h hdm
      have := prep_ok rest (pre ++ [o]) _ dm' (k := k) (r := r) (by simpa using h) (mk dm' hdm)
      simpa using this
    have last : ∀ (i : Nat) o', (pre ++ [o])[i]? = some o' → (pre[i]? = some o' ∧ i < pre.length) ∨ (i = pre.length ∧ o' = o) := by
      intro i o' ho
      by_cases hi : i < pre.length
      · rw [List.getElem?_append_left hi] at ho; exact .inl ⟨ho, hi⟩
      · rw [List.getElem?_append_right (by omega)] at ho
        cases hh : i - pre.length with
        | zero => rw [hh] at ho; simp only [List.getElem?_cons_zero, Option.some.injEq] at ho; exact .inr ⟨by omega, ho.symm⟩
        | succ q => rw [hh] at ho; simp at ho
    split at h
    · rename_i hd
      refine fin dm h fun i o' d ho hdo => ?_
      rcases last i o' ho with ⟨ho, _⟩ | ⟨_, rfl⟩
      · exact hp.hd i o' d ho hdo
      · rw [hd] at hdo; cases hdo
    · rename_i d hd
      split at h
      · rename_i hdn
        rw [T.set_eq] at h
        refine fin _ h fun i o' d' ho hdo => ?_
        rcases last i o' ho with ⟨ho, _⟩ | ⟨hi, rfl⟩
        · have := hp.hd i o' d' ho hdo
          rw [T.get_up, if_neg (fun e => by subst e; rw [hdn] at this; cases this)]
          exact this
        · rw [hd] at hdo
          cases hdo
          rw [T.get_up, if_pos rfl, hi]
      · cases h

/-! ### Views and merges -/

noncomputable def partS (h : T O) : List Nat → T O → T O
  | [], t => t
  | x :: r, t => partS h r (t.up x (h.get x))
theorem part_eq {β : Type} (h : T O) : ∀ (F : List Nat) (t : T O) (k : T O → β), part h F t k = k (partS h F t)
  | [], _, _ => rfl
  | x :: r, t, k => by simp only [part, partS]; rw [T.set_eq]; exact part_eq h r _ k
theorem partS_get (h : T O) : ∀ (F : List Nat) (t : T O) (j : Nat), (partS h F t).get j = if j ∈ F then h.get j else t.get j
  | [], t, j => by simp [partS]
  | x :: r, t, j => by
    simp only [partS]
    rw [partS_get h r, T.get_up]
    by_cases h1 : j ∈ r
    · simp [h1]
    · by_cases h2 : j = x
      · subst h2; simp [h1]
      · simp [h1, h2]

noncomputable def copyS (g : T O) : Nat → Nat → T O → T O
  | _, 0, h => h
  | lo, n + 1, h => copyS g (Nat.succ lo) n (h.up lo (g.get lo))
theorem copyN_eq {β : Type} (g : T O) : ∀ (n lo : Nat) (h : T O) (k : T O → β), copyN g lo n h k = k (copyS g lo n h)
  | 0, _, _, _ => rfl
  | n + 1, lo, h, k => by simp only [copyN, copyS]; rw [T.set_eq]; exact copyN_eq g n _ _ k
theorem copyS_get (g : T O) : ∀ (n lo : Nat) (h : T O) (j : Nat), (copyS g lo n h).get j = if lo ≤ j ∧ j < lo + n then g.get j else h.get j
  | 0, lo, h, j => by rw [if_neg (by omega)]; rfl
  | n + 1, lo, h, j => by
    simp only [copyS]
    rw [copyS_get g n, T.get_up]
    by_cases h1 : Nat.succ lo ≤ j ∧ j < Nat.succ lo + n
    · rw [if_pos h1, if_pos (by omega)]
    · rw [if_neg h1]
      by_cases h2 : j = lo
      · subst h2; rw [if_pos rfl, if_pos (by omega)]
      · rw [if_neg h2, if_neg (by omega)]

noncomputable def dropS : Nat → Nat → T O → T O
  | _, 0, h => h
  | lo, n + 1, h => dropS (Nat.succ lo) n (h.up lo none)
theorem dropN_eq {β : Type} : ∀ (n lo : Nat) (h : T O) (k : T O → β), dropN lo n h k = k (dropS lo n h)
  | 0, _, _, _ => rfl
  | n + 1, lo, h, k => by simp only [dropN, dropS]; rw [T.set_eq]; exact dropN_eq n _ _ k
theorem dropS_get : ∀ (n lo : Nat) (h : T O) (j : Nat) (o : O), (dropS lo n h).get j = some o → h.get j = some o ∧ ¬ (lo ≤ j ∧ j < lo + n)
  | 0, lo, h, j, o, hj => ⟨hj, by omega⟩
  | n + 1, lo, h, j, o, hj => by
    simp only [dropS] at hj
    obtain ⟨h1, h2⟩ := dropS_get n _ _ j o hj
    rw [T.get_up] at h1
    split at h1
    · cases h1
    · exact ⟨h1, by omega⟩

noncomputable def withoutS (cl : Nat) : List Rc → T O → T O
  | [], h => h
  | r :: rs, h => match bit cl r.i with
    | true => withoutS cl rs h
    | false => withoutS cl rs (dropS r.lo (Nat.sub r.hi r.lo) h)
theorem without_eq {β : Type} (cl : Nat) : ∀ (rs : List Rc) (h : T O) (k : T O → β), without cl rs h k = k (withoutS cl rs h)
  | [], _, _ => rfl
  | r :: rs, h, k => by
    simp only [without, withoutS]
    cases bit cl r.i with
    | true => exact without_eq cl rs h k
    | false => simp only; rw [dropN_eq]; exact without_eq cl rs _ k
theorem withoutS_get (cl : Nat) : ∀ (rs : List Rc) (h : T O) (j : Nat) (o : O), (withoutS cl rs h).get j = some o → h.get j = some o ∧ ∀ r ∈ rs, bit cl r.i = false → ¬ (r.lo ≤ j ∧ j < r.hi)
  | [], h, j, o, hj => ⟨hj, fun r hr => by simp at hr⟩
  | r :: rs, h, j, o, hj => by
    simp only [withoutS] at hj
    cases hb : bit cl r.i with
    | true =>
      rw [hb] at hj
      obtain ⟨h1, h2⟩ := withoutS_get cl rs h j o hj
      refine ⟨h1, fun r' hr' hb' => ?_⟩
      rcases List.mem_cons.1 hr' with rfl | hr'
      · rw [hb] at hb'; cases hb'
      · exact h2 r' hr' hb'
    | false =>
      rw [hb] at hj
      obtain ⟨h1, h2⟩ := withoutS_get cl rs _ j o hj
      obtain ⟨h3, h4⟩ := dropS_get _ _ _ _ _ h1
      refine ⟨h3, fun r' hr' hb' => ?_⟩
      rcases List.mem_cons.1 hr' with rfl | hr'
      · intro h5
        apply h4
        show r'.lo ≤ j ∧ j < r'.lo + (r'.hi - r'.lo)
        omega
      · exact h2 r' hr' hb'

theorem memN_iff {x : Nat} : ∀ l : List Nat, memN x l = true ↔ x ∈ l
  | [] => by simp [memN]
  | y :: r => by
    simp only [memN]
    split
    · rename_i h
      simp [Nat.eq_of_beq_eq_true h]
    · rename_i h
      have : x ≠ y := fun e => by subst e; simp at h
      simp [memN_iff r, this]
theorem disj_ok : ∀ (a b : List Nat), disj a b = true → ∀ x ∈ a, x ∉ b
  | [], b, _, x, h => by simp at h
  | y :: r, b, h, x, hx => by
    simp only [disj] at h
    split at h
    · cases h
    · rename_i hm
      rcases List.mem_cons.1 hx with rfl | hx
      · exact fun hb => by rw [(memN_iff b).2 hb] at hm; cases hm
      · exact disj_ok r b h x hx
theorem outs_ok {lo hi : Nat} : ∀ (l : List Nat), outs lo hi l = true → ∀ x ∈ l, ¬ (lo ≤ x ∧ x < hi)
  | [], _, x, h => by simp at h
  | y :: r, h, x, hx => by
    simp only [outs] at h
    split at h
    · cases h
    · rename_i hm
      rcases List.mem_cons.1 hx with rfl | hx
      · intro hc
        rw [Bool.and_eq_false_iff] at hm
        rcases hm with hm | hm
        · rw [← Bool.not_eq_true, Nat.ble_eq] at hm; exact hm hc.1
        · rw [← Bool.not_eq_true, Nat.blt_eq] at hm; exact hm hc.2
      · exact outs_ok r h x hx
theorem below_ok {nx : Nat} : ∀ (l : List Nat), below nx l = true → ∀ x ∈ l, x < nx
  | [], _, x, h => by simp at h
  | y :: r, h, x, hx => by
    simp only [below] at h
    split at h
    · rename_i hm
      rcases List.mem_cons.1 hx with rfl | hx
      · simpa [Nat.blt_eq] using hm
      · exact below_ok r h x hx
    · cases h
theorem geL_mem {bar x : Nat} : ∀ l : List Nat, x ∈ geL bar l ↔ x ∈ l ∧ bar ≤ x
  | [] => by simp [geL]
  | y :: r => by
    simp only [geL]
    split
    · rename_i h
      have h : bar ≤ y := by simpa using h
      simp only [List.mem_cons, geL_mem r]
      constructor
      · rintro (rfl | ⟨h1, h2⟩)
        · exact ⟨.inl rfl, h⟩
        · exact ⟨.inr h1, h2⟩
      · rintro ⟨rfl | h1, h2⟩
        · exact .inl rfl
        · exact .inr ⟨h1, h2⟩
    · rename_i h
      have h : ¬ bar ≤ y := by rw [← Nat.ble_eq, h]; simp
      simp only [List.mem_cons, geL_mem r]
      constructor
      · exact fun ⟨h1, h2⟩ => ⟨.inr h1, h2⟩
      · rintro ⟨rfl | h1, h2⟩
        · exact absurd h2 h
        · exact ⟨h1, h2⟩
theorem isNil_ok {l : List Nat} (h : isNil l = true) : l = [] := by cases l <;> simp_all [isNil]

theorem fits_ok {cl : Nat} {fp : Fp} : ∀ (rs : List Rc), fits cl fp rs = true → ∀ r ∈ rs, bit cl r.i = true ∨ pairOk fp r = true
  | [], _, r, h => by simp at h
  | r' :: rs, h, r, hr => by
    simp only [fits] at h
    cases hb : bit cl r'.i with
    | true =>
      rw [hb] at h
      rcases List.mem_cons.1 hr with rfl | hr
      · exact .inl hb
      · exact fits_ok rs h r hr
    | false =>
      rw [hb] at h
      simp only at h
      split at h
      · rename_i hp
        rcases List.mem_cons.1 hr with rfl | hr
        · exact .inr hp
        · exact fits_ok rs h r hr
      · cases h

/-! ### Who touches what, in whatever order -/

section
variable {tch Rd cl : Nat → Nat → Prop} {D : Nat → Prop} {len i x m : Nat}

theorem claimA (h2 : ∀ j i, j < i → i < len → tch j x → Rd i x → cl i j) (h3 : ∀ j i, j < i → i < len → Rd j x → tch i x → cl i j) (hD : ∀ a b, D a → cl a b → D b) (hi : ¬ D i) (hil : i < len) (hcl : ∀ b, cl i b → D b)
    (hR : Rd i x) (hm : ∀ t, t < len → tch t x → (t < m ↔ D t)) : ∀ t, t < len → tch t x → (t < m ↔ t < i) := by
  intro t ht htx
  rw [hm t ht htx]
  constructor
  · intro hd
    rcases Nat.lt_trichotomy t i with h | h | h
    · exact h
    · subst h; exact absurd hd hi
    · exact absurd (hD t i hd (h3 i t h ht hR htx)) hi
  · exact fun h => hcl t (h2 t i h hil htx hR)

theorem claimB (h1 : ∀ j i, j < i → i < len → tch j x → tch i x → cl i j) (hD : ∀ a b, D a → cl a b → D b) (hi : ¬ D i) (hil : i < len) (hcl : ∀ b, cl i b → D b) (hix : tch i x) :
    ∀ t, t < len → tch t x → (t < i + 1 ↔ D t ∨ t = i) := by
  intro t ht htx
  constructor
  · intro h
    rcases Nat.lt_or_ge t i with h | h
    · exact .inl (hcl t (h1 t i h hil htx hix))
    · exact .inr (by omega)
  · rintro (hd | rfl)
    · rcases Nat.lt_trichotomy t i with h | h | h
      · omega
      · omega
      · exact absurd (hD t i hd (h1 i t h ht hix htx)) hi
    · omega

theorem sameRange {α : Type} {g : Nat → α} (same : ∀ t, t < len → ¬ tch t x → g (t + 1) = g t) : ∀ (n a b : Nat), a + n = b → b ≤ len → (∀ t, t < len → tch t x → (t < a ↔ t < b)) → g a = g b
  | 0, a, b, h, _, _ => by rw [← h]; rfl
  | n + 1, a, b, h, hb, hh => by
    have h1 : ¬ tch a x := fun ht => by have := (hh a (by omega) ht); omega
    rw [← same a (by omega) h1]
    exact sameRange same n (a + 1) b (by omega) hb fun t ht htx => by
      have := hh t ht htx
      have hne : t ≠ a := fun e => by subst e; exact h1 htx
      omega

theorem sameRange' {α : Type} {g : Nat → α} (same : ∀ t, t < len → ¬ tch t x → g (t + 1) = g t) {a b : Nat} (ha : a ≤ len) (hb : b ≤ len) (hh : ∀ t, t < len → tch t x → (t < a ↔ t < b)) : g a = g b := by
  rcases Nat.le_total a b with h | h
  · exact sameRange same (b - a) a b (by omega) hb hh
  · exact (sameRange same (a - b) b a (by omega) ha (fun t ht htx => (hh t ht htx).symm)).symm
end
end CX

/-
  CX: drawn regions: what one run of the executor says of each operation.
-/
namespace CX
open Go

def Wm (bar : Nat) (fp : Fp) (x : Nat) : Prop :=
  match fp with
  | .all => True
  | .q => False
  | .ls F wr => wr = true ∧ x ∈ F ∧ bar ≤ x
def Nw (g : Nat → St) (i x : Nat) : Prop := (g i).nx ≤ x ∧ x < (g (i + 1)).nx
def Tm (g : Nat → St) (fp : Nat → Fp) (i x : Nat) : Prop := Wm (g i).bar (fp i) x ∨ Nw g i x
def Cl (ms : T Nat) (i j : Nat) : Prop := ∃ m, ms.get i = some m ∧ m.testBit j = true
def Rm (ms : T Nat) (g : Nat → St) (fp : Nat → Fp) (i x : Nat) : Prop :=
  match fp i with
  | .all => True
  | .q => x < (g i).nx ∧ ∀ j, j < i → ¬ Cl ms i j → ¬ Nw g j x
  | .ls F _ => x ∈ F
def Triv (g : Nat → St) (fp : Nat → Fp) (i : Nat) : Prop := fp i = .ls [] false ∧ (g (i + 1)).nx = (g i).nx

def barOf (fp : Fp) (bar nx : Nat) : Nat :=
  match fp with
  | .all => bar
  | .q => nx
  | .ls _ wr => match wr with
    | true => bar
    | false => nx

structure MemStep (E : Env) (ih : IH) (ms dm : T Nat) (g : Nat → St) (fp : Nat → Fp) (i cl : Nat) (o : Oper) (v : V) : Prop where
  ran : ∃ hv h' r0, opA E ih (barOf (fp i) (g i).bar (g i).nx) (evD (g i).regs ms dm i cl) hv (g i).nx o.op retV = some r0 ∧ (∀ v' g' n', retV v' g' n' = some r0 → v' = v ∧ g' = h' ∧ n' = (g (i + 1)).nx) ∧
    (∀ x ob, hv.get x = some ob → (g i).h.get x = some ob ∧ ((fp i = .q → x < (g i).nx) → Rm ms g fp i x)) ∧
    (∀ x, Tm g fp i x → (g (i + 1)).h.get x = h'.get x) ∧ (∀ x, ¬ Tm g fp i x → (g (i + 1)).h.get x = (g i).h.get x)
  bar : (g i).bar ≤ (g i).nx
  mono : (g i).nx ≤ (g (i + 1)).nx
  low : ∀ F wr, fp i = .ls F wr → ∀ x ∈ F, x < (g i).nx

structure StepOk (E : Env) (ih : IH) (all : List Oper) (ms dm : T Nat) (g : Nat → St) (fp : Nat → Fp) (i : Nat) (o : Oper) : Prop where
  nt : (g (i + 1)).nt = (g i).nt
  bar : (g (i + 1)).bar = (g i).bar
  df : (g (i + 1)).df = (g i).df
  ex : ∃ cl v, ms.get i = some cl ∧ (g (i + 1)).regs = upD (g i).regs o.dst v ∧ (∀ d, o.dst = some d → d < (g i).nt) ∧
    ((wantB (g i).regs ms dm i cl all o = some false ∧ v = .tup [] ∧ (g (i + 1)).h = (g i).h ∧ Triv g fp i) ∨
     (wantB (g i).regs ms dm i cl all o = some true ∧ clsOf E o.op = 0 ∧ (∃ r0, opP E (evD (g i).regs ms dm i cl) o.op (fun v => retV v .e 0) = some r0 ∧ ∀ v', retV v' .e 0 = some r0 → v' = v) ∧
        (g (i + 1)).h = (g i).h ∧ Triv g fp i) ∨
     (wantB (g i).regs ms dm i cl all o = some true ∧ MemStep E ih ms dm g fp i cl o v))

section
variable {E : Env} {ih : IH} {all : List Oper} {ms dm : T Nat} {g g' : Nat → St} {fp fp' : Nat → Fp}

theorem Nw.congr {i : Nat} (h : g' i = g i) (h1 : g' (i + 1) = g (i + 1)) (x : Nat) : Nw g' i x ↔ Nw g i x := by unfold Nw; rw [h, h1]
theorem Tm.congr {i : Nat} (h : g' i = g i) (h1 : g' (i + 1) = g (i + 1)) (hf : fp' i = fp i) (x : Nat) : Tm g' fp' i x ↔ Tm g fp i x := by unfold Tm; rw [Nw.congr h h1, h, hf]
theorem Triv.congr {i : Nat} (h : g' i = g i) (h1 : g' (i + 1) = g (i + 1)) (hf : fp' i = fp i) : Triv g' fp' i ↔ Triv g fp i := by unfold Triv; rw [h, h1, hf]
theorem Rm.congr {i : Nat} (h : ∀ k, k ≤ i → g' k = g k) (hf : fp' i = fp i) (x : Nat) : Rm ms g' fp' i x ↔ Rm ms g fp i x := by
  unfold Rm
  rw [hf, h i (Nat.le_refl _)]
  split
  · exact Iff.rfl
  · refine and_congr_right fun _ => forall_congr' fun j => forall_congr' fun hj => forall_congr' fun _ => not_congr ?_
    exact Nw.congr (h j (by omega)) (h (j + 1) (by omega)) x
  · exact Iff.rfl

theorem MemStep.congr {i cl : Nat} {o : Oper} {v : V} (h : ∀ k, k ≤ i + 1 → g' k = g k) (hf : fp' i = fp i) (hm : MemStep E ih ms dm g fp i cl o v) : MemStep E ih ms dm g' fp' i cl o v := by
  have e0 := h i (by omega)
  have e1 := h (i + 1) (by omega)
  obtain ⟨⟨hv, h', r0, a1, a2, a3, a4, a5⟩, b, c, d⟩ := hm
  refine ⟨⟨hv, h', r0, ?_, ?_, fun x ob hx => ?_, fun x hx => ?_, fun x hx => ?_⟩, ?_, ?_, ?_⟩
  · rw [hf, e0]; exact a1
  · rw [e1]; exact a2
  · rw [e0, Rm.congr (fun k hk => h k (by omega)) hf, hf]; exact a3 x ob hx
  · rw [e1]; exact a4 x ((Tm.congr e0 e1 hf x).1 hx)
  · rw [e1, e0]; exact a5 x (fun hn => hx ((Tm.congr e0 e1 hf x).2 hn))
  · rw [e0]; exact b
  · rw [e0, e1]; exact c
  · rw [hf, e0]; exact d

theorem StepOk.congr {i : Nat} {o : Oper} (h : ∀ k, k ≤ i + 1 → g' k = g k) (hf : fp' i = fp i) (hs : StepOk E ih all ms dm g fp i o) : StepOk E ih all ms dm g' fp' i o := by
  have e0 := h i (by omega)
  have e1 := h (i + 1) (by omega)
  obtain ⟨a, b, c, cl, v, d1, d2, d3, d4⟩ := hs
  refine ⟨by rw [e0, e1]; exact a, by rw [e0, e1]; exact b, by rw [e0, e1]; exact c, cl, v, d1, by rw [e0, e1]; exact d2, by rw [e0]; exact d3, ?_⟩
  rcases d4 with ⟨f1, f2, f3, f4⟩ | ⟨f1, f2, f3, f4, f5⟩ | ⟨f1, f2⟩
  · exact .inl ⟨by rw [e0]; exact f1, f2, by rw [e0, e1]; exact f3, (Triv.congr e0 e1 hf).2 f4⟩
  · exact .inr (.inl ⟨by rw [e0]; exact f1, f2, by rw [e0]; exact f3, by rw [e0, e1]; exact f4, (Triv.congr e0 e1 hf).2 f5⟩)
  · exact .inr (.inr ⟨by rw [e0]; exact f1, f2.congr h hf⟩)

structure Tr (E : Env) (ih : IH) (all : List Oper) (ms dm : T Nat) (i : Nat) (g : Nat → St) (fp : Nat → Fp) (recs : List Rc) : Prop where
  st : ∀ (j : Nat) o, j < i → all[j]? = some o → StepOk E ih all ms dm g fp j o
  rc : ∀ r ∈ recs, r.i < i ∧ r.fp = fp r.i ∧ r.lo = (g r.i).nx ∧ r.hi = (g (r.i + 1)).nx
  cov : ∀ j, j < i → (∃ r ∈ recs, r.i = j) ∨ Triv g fp j
  pr : ∀ a b, a < b → b < i → Cl ms b a ∨ Triv g fp b ∨ Triv g fp a ∨ pairOk (fp b) ⟨a, fp a, (g a).nx, (g (a + 1)).nx⟩ = true

theorem putO_ok {β : Type} {S : St} {dst : Option Nat} {v : V} {k : St → Option β} {r : β} (hk : putO S dst v k = some r) :
    k ⟨S.nt, S.bar, upD S.regs dst v, S.h, S.nx, S.df⟩ = some r ∧ ∀ d, dst = some d → d < S.nt := by
  obtain ⟨nt, bar, regs, h, nx, df⟩ := S
  cases dst with
  | none => exact ⟨hk, fun d h => by cases h⟩
  | some d =>
    simp only [putO] at hk
    split at hk
    · rename_i hd
      rw [T.set_eq] at hk
      exact ⟨hk, fun d' h => by cases h; simpa [Nat.blt_eq] using hd⟩
    · cases hk

/-- One step more. -/
theorem Tr.snoc {i : Nat} {recs recs' : List Rc} {o : Oper} (hT : Tr E ih all ms dm i g fp recs) (hg : ∀ k, k ≤ i → g' k = g k) (hf : ∀ k, k < i → fp' k = fp k) (ho : all[i]? = some o) (hs : StepOk E ih all ms dm g' fp' i o)
    (hr : (recs' = recs ∧ Triv g' fp' i) ∨ (recs' = ⟨i, fp' i, (g' i).nx, (g' (i + 1)).nx⟩ :: recs ∧ ∃ cl, ms.get i = some cl ∧ fits cl (fp' i) recs = true)) : Tr E ih all ms dm (i + 1) g' fp' recs' := by
  have rcOld : ∀ r ∈ recs, r.i < i + 1 ∧ r.fp = fp' r.i ∧ r.lo = (g' r.i).nx ∧ r.hi = (g' (r.i + 1)).nx := by
    intro r hr
    obtain ⟨h1, h2, h3, h4⟩ := hT.rc r hr
    exact ⟨by omega, by rw [hf _ h1]; exact h2, by rw [hg _ (by omega)]; exact h3, by rw [hg _ (by omega)]; exact h4⟩
  have tv : ∀ j, j < i → (Triv g' fp' j ↔ Triv g fp j) := fun j hj => Triv.congr (hg j (by omega)) (hg (j + 1) (by omega)) (hf j hj)
  refine ⟨fun j o' hj ho' => ?_, fun r hr' => ?_, fun j hj => ?_, fun a b hab hb => ?_⟩
  · by_cases h : j = i
    · subst h; rw [ho] at ho'; cases ho'; exact hs
    · exact (hT.st j o' (by omega) ho').congr (fun k hk => hg k (by omega)) (hf j (by omega))
  · rcases hr with ⟨rfl, _⟩ | ⟨rfl, _⟩
    · exact rcOld r hr'
    · rcases List.mem_cons.1 hr' with rfl | hr'
      · exact ⟨by simp, rfl, rfl, rfl⟩
      · exact rcOld r hr'
  · by_cases h : j = i
    · subst h
      rcases hr with ⟨_, h⟩ | ⟨rfl, _⟩
      · exact .inr h
      · exact .inl ⟨⟨j, fp' j, (g' j).nx, (g' (j + 1)).nx⟩, by simp, rfl⟩
    · rcases hT.cov j (by omega) with ⟨r, h1, h2⟩ | h1
      · refine .inl ⟨r, ?_, h2⟩
        rcases hr with ⟨rfl, _⟩ | ⟨rfl, _⟩
        · exact h1
        · simp [h1]
      · exact .inr ((tv j (by omega)).2 h1)
  · by_cases h : b = i
    · subst h
      rcases hr with ⟨_, h⟩ | ⟨_, cl, hcl, hfit⟩
      · exact .inr (.inl h)
      · rcases hT.cov a hab with ⟨r, h1, h2⟩ | h1
        · subst h2
          rcases fits_ok recs hfit r h1 with h3 | h3
          · exact .inl ⟨cl, hcl, by rw [← bit_eq]; exact h3⟩
          · refine .inr (.inr (.inr ?_))
            obtain ⟨_, e1, e2, e3⟩ := rcOld r h1
            rw [← e1, ← e2, ← e3]
            exact h3
        · exact .inr (.inr (.inl ((tv a hab).2 h1)))
    · have e : (⟨a, fp' a, (g' a).nx, (g' (a + 1)).nx⟩ : Rc) = ⟨a, fp a, (g a).nx, (g (a + 1)).nx⟩ := by rw [hf a (by omega), hg a (by omega), hg (a + 1) (by omega)]
      rw [e, hf b (by omega), tv b (by omega), tv a (by omega)]
      exact hT.pr a b hab (by omega)

def VwP (cl : Nat) (recs : List Rc) (fp : Fp) (x : Nat) : Prop :=
  match fp with
  | .all => True
  | .q => ∀ r ∈ recs, bit cl r.i = false → ¬ (r.lo ≤ x ∧ x < r.hi)
  | .ls F _ => x ∈ F

theorem viewX_ok {β : Type} {cl : Nat} {recs : List Rc} {fp : Fp} {h : T O} {bar nx : Nat} {k : T O → Nat → Option β} {r : β} (hk : viewX cl recs fp h bar nx k = some r) :
    ∃ hv, k hv (barOf fp bar nx) = some r ∧ ∀ x ob, hv.get x = some ob → h.get x = some ob ∧ VwP cl recs fp x := by
  cases fp with
  | all => exact ⟨h, hk, fun x ob hx => ⟨hx, trivial⟩⟩
  | q =>
    simp only [viewX] at hk
    rw [without_eq] at hk
    exact ⟨_, hk, fun x ob hx => withoutS_get _ _ _ _ _ hx⟩
  | ls F wr =>
    simp only [viewX] at hk
    rw [part_eq] at hk
    refine ⟨partS h F .e, ?_, fun x ob hx => ?_⟩
    · cases wr with
      | true => exact hk
      | false => exact hk
    · rw [partS_get] at hx
      split at hx
      · rename_i hm; exact ⟨hx, hm⟩
      · simp [T.get] at hx

theorem mergeX_ok {β : Type} {fp : Fp} {h h' : T O} {bar lo hi : Nat} (hlo : lo ≤ hi) {k : T O → Option β} {r : β} (hk : mergeX fp h h' bar lo hi k = some r) :
    ∃ h2, k h2 = some r ∧ (∀ x, (Wm bar fp x ∨ (lo ≤ x ∧ x < hi)) → h2.get x = h'.get x) ∧ ∀ x, ¬ (Wm bar fp x ∨ (lo ≤ x ∧ x < hi)) → h2.get x = h.get x := by
  have hs : lo + Nat.sub hi lo = hi := by show lo + (hi - lo) = hi; omega
  cases fp with
  | all => exact ⟨h', hk, fun x _ => rfl, fun x hx => absurd (.inl trivial) hx⟩
  | q =>
    simp only [mergeX] at hk
    rw [copyN_eq] at hk
    refine ⟨_, hk, fun x hx => ?_, fun x hx => ?_⟩
    · rw [copyS_get, hs, if_pos (by rcases hx with hx | hx; exact hx.elim; exact hx)]
    · rw [copyS_get, hs, if_neg (fun h => hx (.inr h))]
  | ls F wr =>
    cases wr with
    | true =>
      simp only [mergeX] at hk
      rw [part_eq, copyN_eq] at hk
      refine ⟨_, hk, fun x hx => ?_, fun x hx => ?_⟩
      · rw [copyS_get, hs]
        split
        · rfl
        · rename_i hn
          rcases hx with hx | hx
          · rw [partS_get, if_pos ((geL_mem F).2 hx.2)]
          · exact absurd hx hn
      · rw [copyS_get, hs, if_neg (fun h => hx (.inr h)), partS_get, if_neg (fun h => hx (.inl ⟨rfl, (geL_mem F).1 h⟩))]
    | false =>
      simp only [mergeX] at hk
      rw [copyN_eq] at hk
      refine ⟨_, hk, fun x hx => ?_, fun x hx => ?_⟩
      · rw [copyS_get, hs, if_pos (by rcases hx with hx | hx; exact (by cases hx.1); exact hx)]
      · rw [copyS_get, hs, if_neg (fun h => hx (.inr h))]

theorem stepD_ok {r : List Oper} {o : Oper} {i : Nat} {recs recs' : List Rc} {S' : St} (hk : stepD E ih all ms dm r o i recs (g i) = some (S', recs')) (hT : Tr E ih all ms dm i g fp recs) (ho : all[i]? = some o) :
    ∃ g' fp', Tr E ih all ms dm (i + 1) g' fp' recs' ∧ (∀ k, k ≤ i → g' k = g k) ∧ g' (i + 1) = S' := by
  have mkG : ∀ S' : St, ∃ g' : Nat → St, (∀ k, k ≤ i → g' k = g k) ∧ g' (i + 1) = S' := fun S' => ⟨fun k => if k = i + 1 then S' else g k, fun k hk => if_neg (by omega), if_pos rfl⟩
  have mkF : ∀ f : Fp, ∃ fp' : Nat → Fp, (∀ k, k < i → fp' k = fp k) ∧ fp' i = f := fun f => ⟨fun k => if k = i then f else fp k, fun k hk => if_neg (by omega), if_pos rfl⟩
  unfold stepD at hk
  split at hk
  · cases hk
  · rename_i cl hcl
    split at hk
    · cases hk
    · rename_i hw
      obtain ⟨h1, h2⟩ := putO_ok hk
      simp only [Option.some.injEq, Prod.mk.injEq] at h1
      obtain ⟨rfl, rfl⟩ := h1
      obtain ⟨g', hg, hg1⟩ := mkG ⟨(g i).nt, (g i).bar, upD (g i).regs o.dst (.tup []), (g i).h, (g i).nx, (g i).df⟩
      obtain ⟨fp', hfp, hf1⟩ := mkF (.ls [] false)
      have tv : Triv g' fp' i := by
        unfold Triv; rw [hf1, hg1, hg i (Nat.le_refl _)]; exact ⟨rfl, rfl⟩
      refine ⟨g', fp', hT.snoc hg hfp ho ?_ (.inl ⟨rfl, tv⟩), hg, hg1⟩
      refine ⟨?_, ?_, ?_, cl, .tup [], hcl, ?_, ?_, .inl ⟨?_, rfl, ?_, tv⟩⟩
      all_goals first | rw [hg1, hg i (Nat.le_refl _)] | rw [hg i (Nat.le_refl _)]
      · exact h2
      · exact hw
    · rename_i hw
      split at hk
      · rename_i hc
        obtain ⟨r0, v, g0, n0, hr0, hk, hv⟩ := outV_ok hk
        obtain ⟨h1, h2⟩ := putO_ok hk
        simp only [Option.some.injEq, Prod.mk.injEq] at h1
        obtain ⟨rfl, rfl⟩ := h1
        obtain ⟨g', hg, hg1⟩ := mkG ⟨(g i).nt, (g i).bar, upD (g i).regs o.dst v, (g i).h, (g i).nx, (g i).df⟩
        obtain ⟨fp', hfp, hf1⟩ := mkF (.ls [] false)
        have tv : Triv g' fp' i := by
          unfold Triv; rw [hf1, hg1, hg i (Nat.le_refl _)]; exact ⟨rfl, rfl⟩
        refine ⟨g', fp', hT.snoc hg hfp ho ?_ (.inl ⟨rfl, tv⟩), hg, hg1⟩
        refine ⟨?_, ?_, ?_, cl, v, hcl, ?_, ?_, .inr (.inl ⟨?_, hc, ?_, ?_, tv⟩)⟩
        all_goals first | rw [hg1, hg i (Nat.le_refl _)] | rw [hg i (Nat.le_refl _)]
        · exact h2
        · exact hw
        · exact ⟨r0, hr0, fun v' h => (hv v' _ _ h).1⟩
      · split at hk
        · rename_i f hpick
          unfold memD at hk
          obtain ⟨hgi⟩ : ∃ x, g i = x := ⟨_, rfl⟩
          split at hk
          rename_i nt bar regs h nx df hgi
          split at hk
          · cases hk
          · rename_i hchk
            simp only [Bool.and_eq_true, Nat.ble_eq] at hchk
            obtain ⟨⟨hbel, hfit⟩, hbar⟩ := hchk
            obtain ⟨hv, hk, hview⟩ := viewX_ok hk
            obtain ⟨r0, v, h', nx', hr0, hk, hval⟩ := outV_ok hk
            split at hk
            · cases hk
            · rename_i hmono
              have hmono : nx ≤ nx' := by simpa using hmono
              obtain ⟨h2, hk, hm1, hm2⟩ := mergeX_ok hmono hk
              obtain ⟨h1, hd⟩ := putO_ok hk
              simp only [Option.some.injEq, Prod.mk.injEq] at h1
              obtain ⟨rfl, rfl⟩ := h1
              obtain ⟨g', hg, hg1⟩ := mkG ⟨nt, bar, upD regs o.dst v, h2, nx', df⟩
              obtain ⟨fp', hfp, hf1⟩ := mkF f
              refine ⟨g', fp', hT.snoc hg hfp ho ?_ (.inr ⟨?_, cl, hcl, by rw [hf1]; exact hfit⟩), hg, hg1⟩
              · have e0 := hg i (Nat.le_refl _)
                refine ⟨?_, ?_, ?_, cl, v, hcl, ?_, ?_, .inr (.inr ⟨?_, ⟨hv, h', r0, ?_, ?_, fun x ob hx => ?_, fun x hx => ?_, fun x hx => ?_⟩, ?_, ?_, ?_⟩)⟩
                · rw [hg1, e0, hgi]
                · rw [hg1, e0, hgi]
                · rw [hg1, e0, hgi]
                · rw [hg1, e0, hgi]
                · rw [e0, hgi]; exact hd
                · rw [e0]; exact hw
                · rw [hf1, e0, hgi]; exact hr0
                · rw [hg1]; exact hval
                · rw [e0, hgi]
                  obtain ⟨q1, q2⟩ := hview x ob hx
                  refine ⟨q1, fun hlt => ?_⟩
                  unfold Rm
                  rw [hf1] at hlt
                  rw [hf1, e0, hgi]
                  cases f with
                  | all => trivial
                  | q =>
                    refine ⟨hlt rfl, fun j hj hnc hnw => ?_⟩
                    rw [Nw.congr (hg j (by omega)) (hg (j + 1) (by omega))] at hnw
                    rcases hT.cov j hj with ⟨rc, p1, p2⟩ | p
                    · subst p2
                      obtain ⟨_, _, p3, p4⟩ := hT.rc rc p1
                      refine q2 rc p1 ?_ ⟨by rw [p3]; exact hnw.1, by rw [p4]; exact hnw.2⟩
                      rw [← Bool.not_eq_true, bit_eq]
                      exact fun hb => hnc ⟨cl, hcl, hb⟩
                    · have := p.2; unfold Nw at hnw; omega
                  | ls F wr => exact q2
                · rw [hg1]
                  refine hm1 x ?_
                  unfold Tm Nw at hx
                  rw [hf1, hg1, e0, hgi] at hx
                  exact hx
                · rw [hg1, e0, hgi]
                  refine hm2 x ?_
                  unfold Tm Nw at hx
                  rw [hf1, hg1, e0, hgi] at hx
                  exact hx
                · rw [e0, hgi]; exact hbar
                · rw [hg1, e0, hgi]; exact hmono
                · intro F wr hF x hx
                  rw [hf1] at hF
                  rw [e0, hgi]
                  subst hF
                  exact below_ok F hbel x hx
              · rw [hf1, hg1, hg i (Nat.le_refl _), hgi]
        · cases hk

theorem drawGo_ok : ∀ (rest : List Oper) (i : Nat) (recs : List Rc) (g : Nat → St) (fp : Nat → Fp) {Se : St}, (∀ (j : Nat), rest[j]? = all[i + j]?) → drawGo E ih all ms dm rest i recs (g i) = some Se → Tr E ih all ms dm i g fp recs →
    ∃ g' fp' recs', Tr E ih all ms dm (i + rest.length) g' fp' recs' ∧ (∀ k, k ≤ i → g' k = g k) ∧ g' (i + rest.length) = Se
  | [], i, recs, g, fp, Se, hall, h, hT => by
    simp only [drawGo, Option.some.injEq] at h
    exact ⟨g, fp, recs, hT, fun _ _ => rfl, h⟩
  | o :: rest, i, recs, g, fp, Se, hall, h, hT => by
    have h0 : all[i]? = some o := by simpa using (hall 0).symm
    simp only [drawGo] at h
    split at h
    · rename_i S recs1 hst
      obtain ⟨g1, f1, hT1, hg1, hg2⟩ := stepD_ok hst hT h0
      obtain ⟨g', fp', recs', h1, h2, h3⟩ := drawGo_ok rest (i + 1) recs1 g1 f1 (fun j => by have := hall (j + 1); simpa [Nat.add_assoc, Nat.add_comm 1 j] using this) (by rw [hg2]; exact h) hT1
      refine ⟨g', fp', recs', by rw [List.length_cons, show i + (rest.length + 1) = i + 1 + rest.length by omega]; exact h1, fun k hk => ?_, by rw [List.length_cons, show i + (rest.length + 1) = i + 1 + rest.length by omega]; exact h3⟩
      rw [h2 k (by omega), hg1 k hk]
    · cases h
end
end CX

/-
  CX: drawn regions: whatever the order, the same state.
-/
namespace CX
open Go

section
variable {P : Program} {E : Env} {ih : IH} {all : List Oper} {ms dm : T Nat} {g : Nat → St} {fp : Nat → Fp} {recs : List Rc} {len : Nat}

theorem Tr.at (hT : Tr E ih all ms dm len g fp recs) (hl : len = all.length) {i : Nat} (hi : i < len) : ∃ o, all[i]? = some o ∧ StepOk E ih all ms dm g fp i o := by
  obtain ⟨o, ho⟩ : ∃ o, all[i]? = some o := ⟨all[i]'(by omega), by simp [show i < all.length by omega]⟩
  exact ⟨o, ho, hT.st i o hi ho⟩

theorem StepOk.mono {i : Nat} {o : Oper} (h : StepOk E ih all ms dm g fp i o) : (g i).nx ≤ (g (i + 1)).nx := by
  obtain ⟨_, _, _, cl, v, _, _, _, h | h | h⟩ := h
  · exact Nat.le_of_eq h.2.2.2.2.symm
  · exact Nat.le_of_eq h.2.2.2.2.2.symm
  · exact h.2.mono

theorem StepOk.low {i : Nat} {o : Oper} (h : StepOk E ih all ms dm g fp i o) : ∀ F wr, fp i = .ls F wr → ∀ x ∈ F, x < (g i).nx := by
  obtain ⟨_, _, _, cl, v, _, _, _, h | h | h⟩ := h
  · intro F wr hF x hx; rw [h.2.2.2.1] at hF; cases hF; simp at hx
  · intro F wr hF x hx; rw [h.2.2.2.2.1] at hF; cases hF; simp at hx
  · exact h.2.low

theorem Triv.not {i x : Nat} (h : Triv g fp i) : ¬ Tm g fp i x := by
  unfold Tm Wm Nw
  rw [h.1, h.2]
  rintro (h | h)
  · exact absurd h.1 (by simp)
  · omega

theorem StepOk.same {i : Nat} {o : Oper} (h : StepOk E ih all ms dm g fp i o) (x : Nat) (hx : ¬ Tm g fp i x) : (g (i + 1)).h.get x = (g i).h.get x := by
  obtain ⟨_, _, _, cl, v, _, _, _, h | h | h⟩ := h
  · rw [h.2.2.1]
  · rw [h.2.2.2.1]
  · obtain ⟨_, _, _, _, _, _, _, h⟩ := h.2.ran
    exact h x hx

def TmR (all : List Oper) (i x : Nat) : Prop := ∃ o, all[i]? = some o ∧ o.dst = some x
def RdR (ms dm : T Nat) (i x : Nat) : Prop := dm.get x = none ∨ ∃ j, dm.get x = some j ∧ (Cl ms i j ∨ Cl ms j i)

theorem StepOk.sameR {i : Nat} {o : Oper} (h : StepOk E ih all ms dm g fp i o) (ho : all[i]? = some o) (x : Nat) (hx : ¬ TmR all i x) : (g (i + 1)).regs.get x = (g i).regs.get x := by
  obtain ⟨_, _, _, cl, v, _, h, _, _⟩ := h
  rw [h]
  unfold upD
  split
  · rfl
  · rename_i d hd
    rw [T.get_up, if_neg]
    rintro rfl
    exact hx ⟨o, ho, hd⟩

theorem Cl.lt (hp : PrepOk all ms dm) {i j : Nat} (h : Cl ms i j) : j < i := by
  obtain ⟨m, h1, h2⟩ := h
  exact hp.lt i m j h1 h2

theorem nx_mono (hT : Tr E ih all ms dm len g fp recs) (hl : len = all.length) : ∀ (n a b : Nat), a + n = b → b ≤ len → (g a).nx ≤ (g b).nx
  | 0, a, b, h, _ => by rw [← h]; exact Nat.le_refl _
  | n + 1, a, b, h, hb => by
    obtain ⟨o, _, hs⟩ := hT.at hl (i := a) (by omega)
    exact Nat.le_trans hs.mono (nx_mono hT hl n (a + 1) b (by omega) hb)
theorem nx_le (hT : Tr E ih all ms dm len g fp recs) (hl : len = all.length) {a b : Nat} (h : a ≤ b) (hb : b ≤ len) : (g a).nx ≤ (g b).nx := nx_mono hT hl (b - a) a b (by omega) hb

theorem regT1 (hp : PrepOk all ms dm) {i j x : Nat} (_hij : j < i) (h1 : TmR all j x) (h2 : TmR all i x) : Cl ms i j := by
  obtain ⟨o, ho, hd⟩ := h1
  obtain ⟨o', ho', hd'⟩ := h2
  have e1 := hp.hd j o x ho hd
  have e2 := hp.hd i o' x ho' hd'
  rw [e1] at e2
  cases e2
  omega
theorem regT2 (hp : PrepOk all ms dm) {i j x : Nat} (hij : j < i) (h1 : TmR all j x) (h2 : RdR ms dm i x) : Cl ms i j := by
  obtain ⟨o, ho, hd⟩ := h1
  have e1 := hp.hd j o x ho hd
  rcases h2 with h | ⟨q, h, h'⟩
  · rw [h] at e1; cases e1
  · rw [h] at e1; cases e1
    rcases h' with h' | h'
    · exact h'
    · have := Cl.lt hp h'; omega
theorem regT3 (hp : PrepOk all ms dm) {i j x : Nat} (hij : j < i) (h1 : RdR ms dm j x) (h2 : TmR all i x) : Cl ms i j := by
  obtain ⟨o, ho, hd⟩ := h2
  have e1 := hp.hd i o x ho hd
  rcases h1 with h | ⟨q, h, h'⟩
  · rw [h] at e1; cases e1
  · rw [h] at e1; cases e1
    rcases h' with h' | h'
    · have := Cl.lt hp h'; omega
    · exact h'

theorem memT (hT : Tr E ih all ms dm len g fp recs) (hl : len = all.length) {i j x : Nat} (hij : j < i) (hi : i < len) :
    (Tm g fp j x → Tm g fp i x → Cl ms i j) ∧ (Tm g fp j x → Rm ms g fp i x → Cl ms i j) ∧ (Rm ms g fp j x → Tm g fp i x → Cl ms i j) := by
  by_cases hc : Cl ms i j
  · exact ⟨fun _ _ => hc, fun _ _ => hc, fun _ _ => hc⟩
  obtain ⟨oi, _, hsi⟩ := hT.at hl hi
  obtain ⟨oj, _, hsj⟩ := hT.at hl (i := j) (by omega)
  have hn1 : (g j).nx ≤ (g (j + 1)).nx := hsj.mono
  have hn2 : (g (j + 1)).nx ≤ (g i).nx := nx_le hT hl (by omega) (by omega)
  have lowj := hsj.low
  have tRm : ∀ k, Triv g fp k → ¬ Rm ms g fp k x := by
    intro k hk h
    unfold Rm at h
    rw [hk.1] at h
    simp at h
  rcases hT.pr j i hij hi with h | h | h | h
  · exact absurd h hc
  · exact ⟨fun _ h2 => absurd h2 h.not, fun _ h2 => absurd h2 (tRm i h), fun _ h2 => absurd h2 h.not⟩
  · exact ⟨fun h2 => absurd h2 h.not, fun h2 => absurd h2 h.not, fun h2 => absurd h2 (tRm j h)⟩
  · unfold pairOk at h
    cases hfi : fp i with
    | all => rw [hfi] at h; cases h
    | q =>
      rw [hfi] at h
      cases hfj : fp j with
      | all => rw [hfj] at h; cases h
      | q =>
        unfold Tm Rm Wm
        rw [hfi, hfj]
        simp only [Nw, false_or]
        refine ⟨fun h1 h2 => by omega, fun h1 h2 => absurd h1 ?_, fun h1 h2 => by omega⟩
        have := h2.2 j hij hc
        simpa [Nw] using this
      | ls F wr =>
        rw [hfj] at h
        have hw : wr = true → F = [] := by
          intro e; subst e; exact isNil_ok h
        unfold Tm Rm Wm
        rw [hfi, hfj]
        simp only [Nw, false_or]
        refine ⟨fun h1 h2 => ?_, fun h1 h2 => ?_, fun h1 h2 => ?_⟩
        · rcases h1 with h1 | h1
          · have := lowj F wr hfj x h1.2.1; omega
          · omega
        · rcases h1 with h1 | h1
          · rw [hw h1.1] at h1; simp at h1
          · have := h2.2 j hij hc
            exact absurd h1 (by simpa [Nw] using this)
        · have := lowj F wr hfj x h1; omega
    | ls F wr =>
      rw [hfi] at h
      cases hfj : fp j with
      | all => rw [hfj] at h; cases h
      | q =>
        rw [hfj] at h
        have hw : wr = true → F = [] := by
          intro e; subst e; exact isNil_ok h
        have ho : x ∈ F → ¬ ((g j).nx ≤ x ∧ x < (g (j + 1)).nx) := by
          intro hx
          cases wr with
          | true => rw [hw rfl] at hx; simp at hx
          | false => exact outs_ok F h x hx
        unfold Tm Rm Wm
        rw [hfi, hfj]
        simp only [Nw, false_or]
        refine ⟨fun h1 h2 => ?_, fun h1 h2 => absurd h1 (ho h2), fun h1 h2 => ?_⟩
        · rcases h2 with h2 | h2
          · exact absurd h1 (ho h2.2.1)
          · omega
        · rcases h2 with h2 | h2
          · rw [hw h2.1] at h2; simp at h2
          · omega
      | ls F' wr' =>
        rw [hfj] at h
        simp only at h
        split at h
        · cases h
        · rename_i hout
          have ho := outs_ok F hout x
          have hd : (wr = true ∨ wr' = true) → x ∈ F → x ∈ F' → False := by
            intro hw h1 h2
            cases wr <;> cases wr' <;> first | (simp at hw; done) | exact disj_ok F F' h x h1 h2
          unfold Tm Rm Wm
          rw [hfi, hfj]
          simp only [Nw]
          refine ⟨fun h1 h2 => ?_, fun h1 h2 => ?_, fun h1 h2 => ?_⟩
          · rcases h2 with h2 | h2
            · rcases h1 with h1 | h1
              · exact (hd (.inl h2.1) h2.2.1 h1.2.1).elim
              · exact absurd h1 (ho h2.2.1)
            · rcases h1 with h1 | h1
              · have := lowj F' wr' hfj x h1.2.1; omega
              · omega
          · rcases h1 with h1 | h1
            · exact (hd (.inr h1.1) h2 h1.2.1).elim
            · exact absurd h1 (ho h2)
          · rcases h2 with h2 | h2
            · exact (hd (.inl h2.1) h2.2.1 h1).elim
            · have := lowj F' wr' hfj x h1; omega

structure DInv (ρ0 : Nm) (w0 : World) (all : List Oper) (len : Nat) (g : Nat → St) (fp : Nat → Fp) (D : Nat → Prop) (ρ : Nm) (xh : Nat → Option O) (xr : Nat → Option V) (a : Act) (w : World) : Prop where
  mem : ∀ x, ∃ m, m ≤ len ∧ xh x = (g m).h.get x ∧ (∀ t, t < len → Tm g fp t x → (t < m ↔ D t)) ∧ (m = 0 ∨ ∃ t, m = t + 1 ∧ t < len ∧ Tm g fp t x) ∧ ∀ o, xh x = some o → x < (g m).nx ∧ ObjOk ρ (g m).nx w x o
  reg : ∀ x, ∃ m, m ≤ len ∧ xr x = (g m).regs.get x ∧ (∀ t, t < len → TmR all t x → (t < m ↔ D t)) ∧ (m = 0 ∨ ∃ t, m = t + 1 ∧ t < len ∧ TmR all t x) ∧ ∀ v, xr x = some v → ∃ u, a.tmps[x]? = some u ∧ Rv ρ (g m).nx v u
  sep : ∀ x o x' o', xh x = some o → xh x' = some o' → x ≠ x' → ∀ L L', ρ x = some L → ρ x' = some L' → L.b ≠ L'.b
  blk : ∀ x L, ρ x = some L → L.b < w.heap.size
  dom : ∀ x L, ρ x = some L → x < (g 0).nx ∨ ∃ t, t < len ∧ D t ∧ Nw g t x
  size : a.tmps.size = (g 0).nt
  df : RvD ρ (g 0).nx (g 0).df a.defers
  ag : agree (g 0).nx ρ0 ρ
  fr : Fr (Own ρ0 (g 0).h.get (g 0).bar) w0 (Own ρ xh (g 0).bar) w
  cb : ∀ j, j < len → fp j = .all → D j → ∀ x o, (g (j + 1)).h.get x = some o → x < (g (j + 1)).nx

variable {ρ0 ρ : Nm} {w0 w : World} {D : Nat → Prop} {xh : Nat → Option O} {xr : Nat → Option V} {a : Act}

/-- What is looked at is as it was in the text's order. -/
theorem DInv.memAt (hT : Tr E ih all ms dm len g fp recs) (hl : len = all.length) (hI : DInv ρ0 w0 all len g fp D ρ xh xr a w) (hD : ∀ a b, D a → Cl ms a b → D b) {i : Nat} (hi : ¬ D i) (hil : i < len) (hcl : ∀ b, Cl ms i b → D b) {x : Nat} (hR : Rm ms g fp i x) :
    xh x = (g i).h.get x ∧ ∃ m, m ≤ i ∧ ∀ o, xh x = some o → x < (g m).nx ∧ ObjOk ρ (g m).nx w x o := by
  obtain ⟨m, h1, h2, h3, h4, h5⟩ := hI.mem x
  have hA := claimA (fun j i hj hi => (memT hT hl hj hi).2.1) (fun j i hj hi => (memT hT hl hj hi).2.2) hD hi hil hcl hR h3
  have same : ∀ t, t < len → ¬ Tm g fp t x → (g (t + 1)).h.get x = (g t).h.get x := fun t ht hn => by
    obtain ⟨o, _, hs⟩ := hT.at hl ht
    exact hs.same x hn
  have e := sameRange' (g := fun k => (g k).h.get x) same h1 (Nat.le_of_lt hil) hA
  refine ⟨h2.trans e, m, ?_, h5⟩
  rcases h4 with rfl | ⟨t, rfl, ht, htx⟩
  · omega
  · have := (hA t ht htx).1 (Nat.lt_succ_self t); omega

theorem DInv.regAt (hp : PrepOk all ms dm) (hT : Tr E ih all ms dm len g fp recs) (hl : len = all.length) (hI : DInv ρ0 w0 all len g fp D ρ xh xr a w) (hD : ∀ a b, D a → Cl ms a b → D b) {i : Nat} (hi : ¬ D i) (hil : i < len) (hcl : ∀ b, Cl ms i b → D b) {x : Nat} (hR : RdR ms dm i x) {v : V}
    (hv : (g i).regs.get x = some v) : ∃ m u, m ≤ i ∧ a.tmps[x]? = some u ∧ Rv ρ (g m).nx v u := by
  obtain ⟨m, h1, h2, h3, h4, h5⟩ := hI.reg x
  have hA := claimA (tch := TmR all) (fun j i hj _ => regT2 hp hj) (fun j i hj _ => regT3 hp hj) hD hi hil hcl hR h3
  have same : ∀ t, t < len → ¬ TmR all t x → (g (t + 1)).regs.get x = (g t).regs.get x := fun t ht hn => by
    obtain ⟨o, ho, hs⟩ := hT.at hl ht
    exact hs.sameR ho x hn
  have e := sameRange' (g := fun k => (g k).regs.get x) same h1 (Nat.le_of_lt hil) hA
  obtain ⟨u, h6, h7⟩ := h5 v (by rw [h2, e, hv])
  refine ⟨m, u, ?_, h6, h7⟩
  rcases h4 with rfl | ⟨t, rfl, ht, htx⟩
  · omega
  · have := (hA t ht htx).1 (Nat.lt_succ_self t); omega

theorem getD_ok {regs : T V} {i cl t : Nat} (hcl : ms.get i = some cl) {v : V} (h : getD regs ms dm i cl t = some v) : regs.get t = some v ∧ RdR ms dm i t := by
  unfold getD at h
  split at h
  · rename_i hn; exact ⟨h, .inl hn⟩
  · rename_i j hj
    split at h
    · rename_i hb
      exact ⟨h, .inr ⟨j, hj, .inl ⟨cl, hcl, by rw [← bit_eq]; exact hb⟩⟩⟩
    · split at h
      · rename_i m hm
        split at h
        · rename_i hb
          exact ⟨h, .inr ⟨j, hj, .inr ⟨m, hm, by rw [← bit_eq]; exact hb⟩⟩⟩
        · cases h
      · cases h

/-- The slots behind an operation. -/
theorem DInv.regStep (hp : PrepOk all ms dm) (hI : DInv ρ0 w0 all len g fp D ρ xh xr a w) (hD : ∀ a b, D a → Cl ms a b → D b) {i : Nat} (hi : ¬ D i) (hil : i < len) (hcl : ∀ b, Cl ms i b → D b) {o : Oper} (ho : all[i]? = some o)
    {v : V} {u : Value} {ρ' : Nm} (hr : ∀ x L, ρ x = some L → ρ' x = some L) (hv : Rv ρ' (g (i + 1)).nx v u) (hg : (g (i + 1)).regs = upD (g i).regs o.dst v) (hd : ∀ d, o.dst = some d → d < (g 0).nt) :
    ∀ x, ∃ m, m ≤ len ∧ (if o.dst = some x then some v else xr x) = (g m).regs.get x ∧ (∀ t, t < len → TmR all t x → (t < m ↔ (D t ∨ t = i))) ∧ (m = 0 ∨ ∃ t, m = t + 1 ∧ t < len ∧ TmR all t x) ∧
      ∀ v', (if o.dst = some x then some v else xr x) = some v' → ∃ u', (a.put o.dst u).tmps[x]? = some u' ∧ Rv ρ' (g m).nx v' u' := by
  intro x
  by_cases hx : o.dst = some x
  · have ht : TmR all i x := ⟨o, ho, hx⟩
    refine ⟨i + 1, by omega, ?_, claimB (fun j i hj _ => regT1 hp hj) hD hi hil hcl ht, .inr ⟨i, rfl, hil, ht⟩, fun v' hv' => ?_⟩
    · rw [if_pos hx, hg, hx, upD, T.get_up, if_pos rfl]
    · rw [if_pos hx] at hv'
      cases hv'
      refine ⟨u, ?_, hv⟩
      rw [hx]
      simp [Act.put, hI.size, hd x hx]
  · obtain ⟨m, h1, h2, h3, h4, h5⟩ := hI.reg x
    have hn : ¬ TmR all i x := fun ⟨o', ho', hd'⟩ => by rw [ho] at ho'; cases ho'; exact hx hd'
    refine ⟨m, h1, by rw [if_neg hx]; exact h2, fun t ht htx => ?_, h4, fun v' hv' => ?_⟩
    · rw [h3 t ht htx]
      exact ⟨.inl, fun h => h.resolve_right (fun e => by subst e; exact hn htx)⟩
    · rw [if_neg hx] at hv'
      obtain ⟨u', h6, h7⟩ := h5 v' hv'
      refine ⟨u', ?_, Rv.ext (Nat.le_refl _) (fun i L _ h => hr i L h) _ _ h7⟩
      cases hdst : o.dst with
      | none => exact h6
      | some d =>
        simp only [Act.put]
        rw [Array.getElem?_setIfInBounds_ne (fun e => hx (by rw [hdst, e]))]
        exact h6
end
end CX

/-
  CX: drawn regions: one operation; the walk.
-/
namespace CX
open Go

section
variable {P : Program} {E : Env} {ih : IH} {all : List Oper} {ms dm : T Nat} {g : Nat → St} {fp : Nat → Fp} {recs : List Rc} {len : Nat}
variable {ρ0 ρ : Nm} {w0 w : World} {D : Nat → Prop} {xh : Nat → Option O} {xr : Nat → Option V} {a : Act}

theorem const_of (hT : Tr E ih all ms dm len g fp recs) (hl : len = all.length) : ∀ i, i ≤ len → (g i).bar = (g 0).bar ∧ (g i).nt = (g 0).nt ∧ (g i).df = (g 0).df
  | 0, _ => ⟨rfl, rfl, rfl⟩
  | i + 1, h => by
    obtain ⟨o, _, hs⟩ := hT.at hl (i := i) (by omega)
    obtain ⟨h1, h2, h3⟩ := const_of hT hl i (by omega)
    exact ⟨hs.bar.trans h1, hs.nt.trans h2, hs.df.trans h3⟩

theorem DInv.bound (hT : Tr E ih all ms dm len g fp recs) (hl : len = all.length) (hI : DInv ρ0 w0 all len g fp D ρ xh xr a w) (h0 : ∀ x o, (g 0).h.get x = some o → x < (g 0).nx) :
    ∀ i, i ≤ len → (∀ j, j < i → fp j = .all → D j) → ∀ x o, (g i).h.get x = some o → x < (g i).nx
  | 0, _, _, x, o, hx => h0 x o hx
  | i + 1, hi, hj, x, o, hx => by
    obtain ⟨oo, _, hs⟩ := hT.at hl (i := i) (by omega)
    by_cases ht : Tm g fp i x
    · have hmono := hs.mono
      rcases ht with ht | ht
      · unfold Wm at ht
        split at ht
        · rename_i hf
          exact hI.cb i (by omega) hf (hj i (by omega) hf) x o hx
        · exact ht.elim
        · rename_i F wr hf
          have := hs.low F wr hf x ht.2.1
          omega
      · exact ht.2
    · rw [hs.same x ht] at hx
      have := DInv.bound hT hl hI h0 i (by omega) (fun j hji => hj j (by omega)) x o hx
      have := hs.mono
      omega

theorem wantB_ok (hp : PrepOk all ms dm) (hT : Tr E ih all ms dm len g fp recs) (hl : len = all.length) (hI : DInv ρ0 w0 all len g fp D ρ xh xr a w) (hD : ∀ a b, D a → Cl ms a b → D b) {i : Nat} (hi : ¬ D i) (hil : i < len) (hcl : ∀ b, Cl ms i b → D b)
    {ops : Array Oper} (hall : all = ops.toList) {o : Oper} {cl : Nat} (hc : ms.get i = some cl) {b : Bool} (h : wantB (g i).regs ms dm i cl all o = some b) : Region.wanted o (yielded ops a.tmps) = b := by
  subst hall
  unfold wantB at h
  split at h
  · rename_i hg
    simp only [Option.some.injEq] at h
    simp [Region.wanted, hg, h]
  · rename_i gd want hg
    split at h
    · rename_i og hog
      split at h
      · rename_i d hd
        rw [nth_eq, Array.getElem?_toList] at hog
        have hd' : (ops[gd]?).bind (·.dst) = some d := by simp [hog, hd]
        split at h
        · rename_i x hx
          obtain ⟨h1, h2⟩ := getD_ok hc hx
          obtain ⟨m, u, _, h3, h4⟩ := hI.regAt hp hT hl hD hi hil hcl h2 h1
          simp only [Rv] at h4
          subst h4
          have hw : Region.wanted o (yielded ops a.tmps) = (x == want) := by
            simp only [Region.wanted, hg, yielded, hd', Option.bind_some, h3]
            cases x <;> cases want <;> rfl
          rw [hw]
          split at h
          · simp only [Option.some.injEq] at h; subst h; rfl
          · simp only [Option.some.injEq] at h; subst h; rfl
          · rename_i h5 h6
            simp only [Option.some.injEq] at h
            subst h
            cases x <;> cases want <;> first | rfl | exact (h5 rfl rfl).elim | exact (h6 rfl rfl).elim
        · rename_i hx
          obtain ⟨h1, h2⟩ := getD_ok hc hx
          obtain ⟨m, u, _, h3, h4⟩ := hI.regAt hp hT hl hD hi hil hcl h2 h1
          simp only [Rv] at h4
          obtain ⟨y, hy, rfl⟩ := h4
          simp only [Option.some.injEq] at h
          subst h
          simp only [Region.wanted, hg, yielded, hd', Option.bind_some, h3]
          cases want <;> rfl
        · cases h
      · cases h
    · cases h

theorem evD_ok (hp : PrepOk all ms dm) (hT : Tr E ih all ms dm len g fp recs) (hl : len = all.length) (hI : DInv ρ0 w0 all len g fp D ρ xh xr a w) (hD : ∀ a b, D a → Cl ms a b → D b) {i : Nat} (hi : ¬ D i) (hil : i < len) (hcl : ∀ b, Cl ms i b → D b)
    {cl : Nat} (hc : ms.get i = some cl) (x : Operand) (v : V) (h : evD (g i).regs ms dm i cl x = some v) : Rv (fun k => if k < (g i).nx then ρ k else none) (g i).nx v (a.eval x) := by
  cases x with
  | tmp t =>
    obtain ⟨h1, h2⟩ := getD_ok hc h
    obtain ⟨m, u, hm, h3, h4⟩ := hI.regAt hp hT hl hD hi hil hcl h2 h1
    have : a.eval (.tmp t) = u := by simp [Act.eval, Array.getD_eq_getD_getElem?, h3]
    rw [this]
    have hle := nx_le hT hl hm (Nat.le_of_lt hil)
    refine Rv.ext hle (fun k L hk hL => ?_) v u h4
    rw [if_pos (by omega)]; exact hL
  | const c => exact conv_ok h
  | func f =>
    simp only [evD, Option.some.injEq] at h
    subst h
    simp only [Rv]
    exact ⟨[], [], by simp [RvL], by simp [RvL], rfl⟩
  | «global» g => cases h

theorem put_tmps {dst : Option Nat} {u : Value} {n : Nat} (h : a.tmps.size = n) : (a.put dst u).tmps.size = n ∧ (a.put dst u).defers = a.defers := by
  cases dst with
  | none => exact ⟨h, rfl⟩
  | some d => exact ⟨by simp [Act.put, h], rfl⟩

/-- An operation that leaves memory alone. -/
theorem DInv.quiet (hp : PrepOk all ms dm) (hI : DInv ρ0 w0 all len g fp D ρ xh xr a w) (hD : ∀ a b, D a → Cl ms a b → D b) {i : Nat} (hi : ¬ D i) (hil : i < len) (hcl : ∀ b, Cl ms i b → D b)
    {o : Oper} (ho : all[i]? = some o) {v : V} {u : Value} (hv : Rv ρ (g (i + 1)).nx v u) (hg : (g (i + 1)).regs = upD (g i).regs o.dst v) (hd : ∀ d, o.dst = some d → d < (g 0).nt) (ht : Triv g fp i) :
    DInv ρ0 w0 all len g fp (fun t => D t ∨ t = i) ρ xh (fun x => if o.dst = some x then some v else xr x) (a.put o.dst u) w := by
  obtain ⟨hs1, hs2⟩ := put_tmps (dst := o.dst) (u := u) hI.size
  refine ⟨fun x => ?_, hI.regStep hp hD hi hil hcl ho (fun _ _ h => h) hv hg hd, hI.sep, hI.blk, fun x L hx => (hI.dom x L hx).imp id fun ⟨t, h1, h2, h3⟩ => ⟨t, h1, .inl h2, h3⟩, hs1, by rw [hs2]; exact hI.df, hI.ag, hI.fr, fun j hj hf hdj => ?_⟩
  · obtain ⟨m, h1, h2, h3, h4, h5⟩ := hI.mem x
    refine ⟨m, h1, h2, fun t htl htx => ?_, h4, h5⟩
    rw [h3 t htl htx]
    exact ⟨.inl, fun h => h.resolve_right fun e => by subst e; exact ht.not htx⟩
  · rcases hdj with hdj | rfl
    · exact hI.cb j hj hf hdj
    · rw [ht.1] at hf; cases hf

theorem barOf_facts {bar nx : Nat} {f : Fp} (h : bar ≤ nx) : bar ≤ barOf f bar nx ∧ barOf f bar nx ≤ nx := by
  cases f with
  | all => exact ⟨Nat.le_refl _, h⟩
  | q => exact ⟨h, Nat.le_refl _⟩
  | ls F wr => cases wr with
    | true => exact ⟨Nat.le_refl _, h⟩
    | false => exact ⟨h, Nat.le_refl _⟩

open Classical in
/-- **An operation that has to do with memory.** -/
theorem DInv.memo (hp : PrepOk all ms dm) (hT : Tr E ih all ms dm len g fp recs) (hl : len = all.length) (hI : DInv ρ0 w0 all len g fp D ρ xh xr a w) (hD : ∀ a b, D a → Cl ms a b → D b) {i : Nat} (hi : ¬ D i) (hil : i < len) (hcl : ∀ b, Cl ms i b → D b)
    {o : Oper} (ho : all[i]? = some o) {v : V} {u : Value} {hv h' : T O} {ρ' : Nm} {w' : World} (hview : ∀ x ob, hv.get x = some ob → xh x = some ob ∧ x < (g i).nx ∧ Rm ms g fp i x) (hm1 : ∀ x, Tm g fp i x → (g (i + 1)).h.get x = h'.get x)
    (hbar : (g 0).bar ≤ (g i).nx) (hmono : (g i).nx ≤ (g (i + 1)).nx) (hg : (g (i + 1)).regs = upD (g i).regs o.dst v) (hd : ∀ d, o.dst = some d → d < (g 0).nt) (hfb : (g i).bar = (g 0).bar)
    (hvu : Rv ρ' (g (i + 1)).nx v u) (hS' : HSat ρ' h'.get (g (i + 1)).nx w') (hag : agree (g i).nx (fun k => if k < (g i).nx then ρ k else none) ρ')
    (hfr : Fr (Own (fun k => if k < (g i).nx then ρ k else none) hv.get (barOf (fp i) (g 0).bar (g i).nx)) w (Own ρ' h'.get (barOf (fp i) (g 0).bar (g i).nx)) w') :
    ∃ ρ2 xh2 xr2, DInv ρ0 w0 all len g fp (fun t => D t ∨ t = i) ρ2 xh2 xr2 (a.put o.dst u) w' := by
  obtain ⟨hb1, hb2⟩ := barOf_facts (f := fp i) hbar
  have hi1 : i + 1 ≤ len := hil
  have h0i : (g 0).nx ≤ (g i).nx := nx_le hT hl (Nat.zero_le _) (Nat.le_of_lt hil)
  obtain ⟨ρ2, hρ2⟩ : ∃ ρ2 : Nm, ∀ x, ρ2 x = if x < (g i).nx then ρ x else if x < (g (i + 1)).nx then ρ' x else ρ x := ⟨_, fun _ => rfl⟩
  have hr : ∀ x L, ρ x = some L → ρ2 x = some L := by
    intro x L hx
    rw [hρ2]
    split
    · exact hx
    · split
      · exfalso
        rcases hI.dom x L hx with h | ⟨t, h1, h2, h3, h4⟩
        · omega
        · rcases Nat.lt_trichotomy t i with h | h | h
          · have := nx_le hT hl (a := t + 1) (b := i) (by omega) (by omega); omega
          · subst h; exact hi h2
          · have := nx_le hT hl (a := i + 1) (b := t) (by omega) (by omega); omega
      · exact hx
  have he : ∀ x, x < (g (i + 1)).nx → ρ2 x = ρ' x := by
    intro x hx
    rw [hρ2, if_pos hx]
    split
    · rename_i h
      have := hag x h
      simp only [if_pos h] at this
      exact this.symm
    · rfl
  have wm : ∀ x, barOf (fp i) (g 0).bar (g i).nx ≤ x → x < (g i).nx → Rm ms g fp i x → Tm g fp i x := by
    intro x hx hlt hR
    refine .inl ?_
    unfold Wm
    unfold Rm at hR
    rw [hfb]
    cases hf : fp i with
    | all => trivial
    | q => rw [hf] at hx; simp only [barOf] at hx; omega
    | ls F wr =>
      rw [hf] at hx hR
      cases wr with
      | true => simp only [barOf] at hx; exact ⟨rfl, hR, hx⟩
      | false => simp only [barOf] at hx; omega
  have tb : ∀ x, Tm g fp i x → fp i ≠ .all → barOf (fp i) (g 0).bar (g i).nx ≤ x := by
    intro x hx hne
    unfold Tm Wm at hx
    rw [hfb] at hx
    cases hf : fp i with
    | all => exact absurd hf hne
    | q =>
      rw [hf] at hx
      rcases hx with hx | hx
      · exact hx.elim
      · exact hx.1
    | ls F wr =>
      rw [hf] at hx
      rcases hx with hx | hx
      · obtain ⟨rfl, _, h3⟩ := hx
        exact h3
      · have := hx.1
        cases wr with
        | true => simp only [barOf]; omega
        | false => exact this
  have notOwn : ∀ x ob L, ¬ Tm g fp i x → xh x = some ob → ρ x = some L → ¬ Own (fun k => if k < (g i).nx then ρ k else none) hv.get (barOf (fp i) (g 0).bar (g i).nx) L.b := by
    rintro x ob L hnt hx hL ⟨id, o', L', h1, h2, h3, h4⟩
    obtain ⟨k1, k2, k3⟩ := hview id o' h2
    simp only [if_pos k2] at h3
    have hT' := wm id h1 k2 k3
    exact hI.sep id o' x ob k1 hx (fun e => by subst e; exact hnt hT') L' L h3 hL h4
  have keepB : ∀ x ob L, ¬ Tm g fp i x → xh x = some ob → ρ x = some L → w'.heap[L.b]? = w.heap[L.b]? := fun x ob L h1 h2 h3 => hfr.keep _ (hI.blk x L h3) (notOwn x ob L h1 h2 h3)
  have locOf : ∀ x ob L, xh x = some ob → ρ2 x = some L → ρ x = some L := by
    intro x ob L hx hL
    obtain ⟨m, _, _, _, _, h5⟩ := hI.mem x
    obtain ⟨L0, hL0⟩ := (h5 ob hx).2.loc
    have := hr x L0 hL0
    rw [hL] at this
    cases this
    exact hL0
  have newLt : ∀ x ob, h'.get x = some ob → x < (g (i + 1)).nx := fun x ob hx => (hS'.objs x ob hx).1
  have ownUp : ∀ b, Own (fun k => if k < (g i).nx then ρ k else none) hv.get (barOf (fp i) (g 0).bar (g i).nx) b → Own ρ xh (g 0).bar b := by
    rintro b ⟨id, o', L', h1, h2, h3, h4⟩
    obtain ⟨k1, k2, k3⟩ := hview id o' h2
    simp only [if_pos k2] at h3
    exact ⟨id, o', L', by omega, k1, h3, h4⟩
  have sepMix : ∀ x ob x' ob' L L', Tm g fp i x → ¬ Tm g fp i x' → h'.get x = some ob → xh x' = some ob' → ρ2 x = some L → ρ2 x' = some L' → L.b ≠ L'.b := by
    intro x ob x' ob' L L' ht hnt hx hx' hL hL' e
    have hne : fp i ≠ .all := fun hf => hnt (by refine .inl ?_; unfold Wm; rw [hf]; trivial)
    rw [he x (newLt x ob hx)] at hL
    have hL2 := locOf x' ob' L' hx' hL'
    rcases hfr.own L.b ⟨x, ob, L, tb x ht hne, hx, hL, rfl⟩ with h | h
    · rw [e] at h; exact notOwn x' ob' L' hnt hx' hL2 h
    · have := hI.blk x' L' hL2; omega
  obtain ⟨hs1, hs2⟩ := put_tmps (dst := o.dst) (u := u) hI.size
  refine ⟨ρ2, fun x => if Tm g fp i x then h'.get x else xh x, fun x => if o.dst = some x then some v else xr x, fun x => ?_, hI.regStep hp hD hi hil hcl ho hr ?_ hg hd, fun x ob x' ob' hx hx' hne L L' hL hL' => ?_, fun x L hx => ?_, fun x L hx => ?_, hs1, ?_, ?_, ?_, fun j hj hf hdj => ?_⟩
  · by_cases ht : Tm g fp i x
    · refine ⟨i + 1, hi1, ?_, claimB (fun j i hj hi => (memT hT hl hj hi).1) hD hi hil hcl ht, .inr ⟨i, rfl, hil, ht⟩, fun ob hob => ?_⟩
      · rw [if_pos ht, hm1 x ht]
      · rw [if_pos ht] at hob
        obtain ⟨k1, k2⟩ := hS'.objs x ob hob
        exact ⟨k1, ObjOk.ext k1 (Nat.le_refl _) (fun k L hk hL => by rw [he k hk]; exact hL) (fun _ _ => rfl) ob k2⟩
    · obtain ⟨m, h1, h2, h3, h4, h5⟩ := hI.mem x
      refine ⟨m, h1, by rw [if_neg ht]; exact h2, fun t htl htx => ?_, h4, fun ob hob => ?_⟩
      · rw [h3 t htl htx]
        exact ⟨.inl, fun h => h.resolve_right fun e => by subst e; exact ht htx⟩
      · rw [if_neg ht] at hob
        obtain ⟨k1, k2⟩ := h5 ob hob
        exact ⟨k1, ObjOk.ext k1 (Nat.le_refl _) (fun k L _ hL => hr k L hL) (fun L hL => keepB x ob L ht hob hL) ob k2⟩
  · exact Rv.ext (Nat.le_refl _) (fun k L hk hL => by rw [he k hk]; exact hL) _ _ hvu
  · split at hx
    · rename_i ht
      split at hx'
      · rw [he x (newLt x ob hx)] at hL
        rw [he x' (newLt x' ob' hx')] at hL'
        exact hS'.sep x ob x' ob' hx hx' hne L L' hL hL'
      · rename_i ht'
        exact sepMix x ob x' ob' L L' ht ht' hx hx' hL hL'
    · rename_i ht
      split at hx'
      · rename_i ht'
        exact fun e => sepMix x' ob' x ob L' L ht' ht hx' hx hL' hL e.symm
      · exact hI.sep x ob x' ob' hx hx' hne L L' (locOf x ob L hx hL) (locOf x' ob' L' hx' hL')
  · have hsz := hfr.size
    rw [hρ2] at hx
    split at hx
    · have := hI.blk x L hx; omega
    · split at hx
      · exact hS'.blk x L hx
      · have := hI.blk x L hx; omega
  · rw [hρ2] at hx
    split at hx
    · exact (hI.dom x L hx).imp id fun ⟨t, h1, h2, h3⟩ => ⟨t, h1, .inl h2, h3⟩
    · rename_i hx1
      split at hx
      · rename_i hx2
        exact .inr ⟨i, hil, .inr rfl, Nat.le_of_not_lt hx1, hx2⟩
      · exact (hI.dom x L hx).imp id fun ⟨t, h1, h2, h3⟩ => ⟨t, h1, .inl h2, h3⟩
  · rw [hs2]; exact hI.df.ext (Nat.le_refl _) (fun k L _ hL => hr k L hL)
  · intro x hx
    rw [hρ2, if_pos (by omega)]
    exact hI.ag x hx
  · refine hI.fr.trans ⟨hfr.os, hfr.tape, hfr.output, hfr.size, fun b hb hno => hfr.keep b hb fun h => hno (ownUp b h), ?_⟩
    rintro b ⟨x, ob, L, hbx, hx, hL, rfl⟩
    simp only at hx
    split at hx
    · rename_i ht
      rw [he x (newLt x ob hx)] at hL
      have hbv : barOf (fp i) (g 0).bar (g i).nx ≤ x := by
        by_cases hf : fp i = .all
        · rw [hf]; exact hbx
        · exact tb x ht hf
      exact (hfr.own L.b ⟨x, ob, L, hbv, hx, hL, rfl⟩).imp (ownUp _) id
    · exact .inl ⟨x, ob, L, hbx, hx, locOf x ob L hx hL, rfl⟩
  · rcases hdj with hdj | rfl
    · exact hI.cb j hj hf hdj
    · intro x ob hx
      rw [hm1 x (by refine .inl ?_; unfold Wm; rw [hf]; trivial)] at hx
      exact newLt x ob hx
end
end CX

/-
  CX: drawn regions: the walk.
-/
namespace CX
open Go

theorem bindsA_eq (e : Edge) : Region.binds .any e = bindsA e := by
  unfold Region.binds bindsA
  cases e.ground <;> rfl

def unl : List Bool → Nat
  | [] => 0
  | true :: r => unl r
  | false :: r => unl r + 1

theorem unl_set : ∀ (l : List Bool) (i : Nat), l[i]? = some false → unl (l.set i true) + 1 = unl l
  | [], i, h => by simp at h
  | b :: r, 0, h => by
    simp only [List.getElem?_cons_zero, Option.some.injEq] at h
    subst h
    simp [unl]
  | b :: r, i + 1, h => by
    have := unl_set r i (by simpa using h)
    cases b <;> simp only [List.set_cons_succ, unl] <;> omega

theorem unl_zero : ∀ (l : List Bool), unl l = 0 → ∀ i : Nat, l[i]? ≠ some false
  | [], _, i, h => by simp at h
  | true :: r, h, 0, h' => by simp at h'
  | true :: r, h, i + 1, h' => unl_zero r (by simpa [unl] using h) i (by simpa using h')
  | false :: r, h, i, h' => by simp [unl] at h

theorem unl_rep : ∀ n, unl (List.replicate n false) = n
  | 0 => rfl
  | n + 1 => by simp [List.replicate_succ, unl, unl_rep n]

theorem getD_false_iff {l : Array Bool} {i : Nat} : l.getD i true = false ↔ l.toList[i]? = some false := by
  rw [Array.getD_eq_getD_getElem?, ← Array.getElem?_toList]
  cases h : l.toList[i]? with
  | none => simp
  | some b => simp

theorem getD_true_iff {l : Array Bool} {i : Nat} : Array.getD l i false = true ↔ l[i]? = some true := by
  rw [Array.getD_eq_getD_getElem?]
  cases h : l[i]? with
  | none => simp
  | some b => simp

section
variable {P : Program} {E : Env} {ih : IH} {ms dm : T Nat} {g : Nat → St} {fp : Nat → Fp} {recs : List Rc} {len : Nat} {ops : Array Oper}
variable {ρ0 ρ : Nm} {w0 w : World} {D : Nat → Prop} {xh : Nat → Option O} {xr : Nat → Option V} {a : Act}

/-- All are done: the state is the text's last. -/
theorem DInv.last (hT : Tr E ih ops.toList ms dm len g fp recs) (hl : len = ops.toList.length) (hI : DInv ρ0 w0 ops.toList len g fp D ρ xh xr a w) (hall : ∀ t, t < len → D t) : Lands ρ0 (g 0) w0 (g len) a w ρ := by
  obtain ⟨hb, hn, hdf⟩ := const_of hT hl len (Nat.le_refl _)
  have hle : ∀ {m}, m ≤ len → (g m).nx ≤ (g len).nx := fun h => nx_le hT hl h (Nat.le_refl _)
  have hmem : xh = (g len).h.get := by
    funext x
    obtain ⟨m, h1, h2, h3, _⟩ := hI.mem x
    rw [h2]
    refine sameRange' (tch := Tm g fp) (x := x) (g := fun k => (g k).h.get x) (fun t ht hn => ?_) h1 (Nat.le_refl _) (fun t ht htx => ?_)
    · obtain ⟨o, _, hs⟩ := hT.at hl ht
      exact hs.same x hn
    · rw [h3 t ht htx]; exact ⟨fun _ => ht, fun _ => hall t ht⟩
  have hreg : xr = (g len).regs.get := by
    funext x
    obtain ⟨m, h1, h2, h3, _⟩ := hI.reg x
    rw [h2]
    refine sameRange' (tch := TmR ops.toList) (x := x) (g := fun k => (g k).regs.get x) (fun t ht hn => ?_) h1 (Nat.le_refl _) (fun t ht htx => ?_)
    · obtain ⟨o, ho, hs⟩ := hT.at hl ht
      exact hs.sameR ho x hn
    · rw [h3 t ht htx]; exact ⟨fun _ => ht, fun _ => hall t ht⟩
  subst hmem hreg
  refine ⟨⟨⟨fun x o hx => ?_, hI.sep, fun x hx => ?_, hI.blk⟩, by rw [hn]; exact hI.size, fun t v hv => ?_, ?_⟩, hI.ag, hle (Nat.zero_le _), hn, hb, by rw [hb]; exact hI.fr⟩
  · obtain ⟨m, h1, _, _, _, h5⟩ := hI.mem x
    obtain ⟨h6, h7⟩ := h5 o hx
    have := hle h1
    exact ⟨by omega, ObjOk.ext h6 this (fun _ _ _ h => h) (fun _ _ => rfl) o h7⟩
  · cases h : ρ x with
    | none => rfl
    | some L =>
      exfalso
      rcases hI.dom x L h with h | ⟨t, h1, _, _, h4⟩
      · have := hle (Nat.zero_le len); omega
      · have := hle (m := t + 1) (by omega); omega
  · obtain ⟨m, h1, _, _, _, h5⟩ := hI.reg t
    obtain ⟨u, h6, h7⟩ := h5 v hv
    exact ⟨u, h6, Rv.ext (hle h1) (fun _ _ _ h => h) _ _ h7⟩
  · rw [hdf]
    exact hI.df.ext (hle (Nat.zero_le _)) (fun _ _ _ h => h)

variable (hE : EnvOk E P) (hI' : IhOk P ih)
include hE hI'

theorem DInv.step (hp : PrepOk ops.toList ms dm) (hT : Tr E ih ops.toList ms dm len g fp recs) (hl : len = ops.toList.length) (h0 : ∀ x o, (g 0).h.get x = some o → x < (g 0).nx) (hI : DInv ρ0 w0 ops.toList len g fp D ρ xh xr a w) (hD : ∀ a b, D a → Cl ms a b → D b)
    {i : Nat} (hi : ¬ D i) (hil : i < len) (hcl : ∀ b, Cl ms i b → D b) {ro : Option Nat} {K : Act → World → Prop} {Q : Exit → Act → World → Prop}
    (hK : ∀ ρ' xh' xr' a' w', DInv ρ0 w0 ops.toList len g fp (fun t => D t ∨ t = i) ρ' xh' xr' a' w' → K a' w') : wpOpIn (Fw ro) 0 P ops Q i K a w := by
  obtain ⟨o, ho, hs⟩ := hT.at hl hil
  have ho' : ops[i]? = some o := by simpa using ho
  obtain ⟨hfb, hfn, _⟩ := const_of hT hl i (Nat.le_of_lt hil)
  obtain ⟨_, _, _, cl, v, hc, hg, hd, hex⟩ := hs
  rw [hfn] at hd
  unfold wpOpIn
  rw [ho']
  simp only
  rcases hex with ⟨hw, rfl, _, ht⟩ | ⟨hw, hcls, ⟨r0, hr0, hv0⟩, _, ht⟩ | ⟨hw, ⟨hv, h', r0, hr0, hv0, hview, hm1, _⟩, hbar, hmono, hlow⟩
  · rw [wantB_ok hp hT hl hI hD hi hil hcl rfl hc hw, if_neg (by simp)]
    exact ⟨fun _ _ => trivial, hK _ _ _ _ _ (hI.quiet hp hD hi hil hcl ho (u := undef) (by simp only [Rv]; exact ⟨[], by simp [RvL], rfl⟩) hg hd ht)⟩
  · rw [wantB_ok hp hT hl hI hD hi hil hcl rfl hc hw, if_pos rfl]
    have hnd : ∀ c, o.op ≠ .defer c := fun c h => by rw [h] at hcls; simp [clsOf] at hcls
    obtain ⟨v', u, h1, h2, h3⟩ := opP_ok hE (ρe := a.eval) (fun x _ v hv => evD_ok hp hT hl hI hD hi hil hcl hc x v hv) hr0
    have := hv0 _ h1
    subst this
    refine ⟨fun _ _ => trivial, ?_⟩
    show o.uponIn (Fw ro) 0 P a K Q ((o.semAt ro a.eval).run P w)
    rw [Oper.semAt_eq _ _ _ hnd, h3 w, Oper.uponIn_value]
    refine hK _ _ _ _ _ (hI.quiet hp hD hi hil hcl ho (v := v') ?_ hg hd ht)
    rw [ht.2]
    refine Rv.ext (Nat.le_refl _) (fun k L hk hL => ?_) _ _ h2
    rw [if_pos hk] at hL; exact hL
  · rw [wantB_ok hp hT hl hI hD hi hil hcl rfl hc hw, if_pos rfl]
    have hvw : ∀ x ob, hv.get x = some ob → xh x = some ob ∧ x < (g i).nx ∧ Rm ms g fp i x ∧ ∃ m, m ≤ i ∧ x < (g m).nx ∧ ObjOk ρ (g m).nx w x ob := by
      intro x ob hx
      obtain ⟨h1, h2⟩ := hview x ob hx
      have hR : Rm ms g fp i x := by
        refine h2 fun hq => ?_
        refine hI.bound hT hl h0 i (Nat.le_of_lt hil) (fun j hj hf => ?_) x ob h1
        rcases hT.pr j i hj hil with h | h | h | h
        · exact hcl j h
        · rw [h.1] at hq; cases hq
        · rw [h.1] at hf; cases hf
        · unfold pairOk at h; rw [hq, hf] at h; cases h
      obtain ⟨h3, m, h4, h5⟩ := hI.memAt hT hl hD hi hil hcl hR
      rw [h1] at h3
      obtain ⟨h6, h7⟩ := h5 ob h3
      have := nx_le hT hl h4 (Nat.le_of_lt hil)
      exact ⟨h3, by omega, hR, m, h4, h6, h7⟩
    have hS : HSat (fun k => if k < (g i).nx then ρ k else none) hv.get (g i).nx w := by
      refine ⟨fun x ob hx => ?_, fun x ob x' ob' hx hx' hne L L' hL hL' => ?_, fun x hx => if_neg (by omega), fun x L hL => ?_⟩
      · obtain ⟨_, h1, _, m, h2, h3, h4⟩ := hvw x ob hx
        have hle := nx_le hT hl h2 (Nat.le_of_lt hil)
        exact ⟨h1, ObjOk.ext h3 hle (fun k L hk hL => by rw [if_pos (by omega)]; exact hL) (fun _ _ => rfl) ob h4⟩
      · rw [if_pos (hvw x ob hx).2.1] at hL
        rw [if_pos (hvw x' ob' hx').2.1] at hL'
        exact hI.sep x ob x' ob' (hvw x ob hx).1 (hvw x' ob' hx').1 hne L L' hL hL'
      · split at hL
        · exact hI.blk x L hL
        · cases hL
    obtain ⟨v', g', n', h1, h2⟩ := opA_ok hI' hE hS (a := a) (fun x _ v hv => evD_ok hp hT hl hI hD hi hil hcl hc x v hv) hr0
    obtain ⟨rfl, rfl, rfl⟩ := hv0 _ _ _ h1
    refine h2 ro _ _ fun u ρ' w' e1 e2 e3 _ e5 => ?_
    rw [hfb] at e5 hbar
    obtain ⟨ρ2, xh2, xr2, hI2⟩ := hI.memo hp hT hl hD hi hil hcl ho (u := u) (fun x ob hx => ⟨(hvw x ob hx).1, (hvw x ob hx).2.1, (hvw x ob hx).2.2.1⟩) hm1 hbar hmono hg hd hfb e1 e2 e3 e5
    exact hK _ _ _ _ _ hI2

theorem DInv.walk (hp : PrepOk ops.toList ms dm) (hT : Tr E ih ops.toList ms dm len g fp recs) (hl : len = ops.toList.length) (h0 : ∀ x o, (g 0).h.get x = some o → x < (g 0).nx) {ro : Option Nat} {Q : Exit → Act → World → Prop}
    (hQ : ∀ ρ a w, Lands ρ0 (g 0) w0 (g len) a w ρ → Q .normal a w) : ∀ (fuel : Nat) (listed : Array Bool) (ρ : Nm) (xh : Nat → Option O) (xr : Nat → Option V) (a : Act) (w : World), listed.size = ops.size → unl listed.toList = fuel →
    DInv ρ0 w0 ops.toList len g fp (fun t => listed[t]? = some true) ρ xh xr a w → (∀ a b, listed[a]? = some true → Cl ms a b → listed[b]? = some true) → wpAnyIn (Fw ro) 0 P .any ops Q fuel listed a w := by
  have hlen : len = ops.size := by simpa using hl
  -- nothing is left if nothing is ready
  have empty : ∀ listed : Array Bool, listed.size = ops.size → Region.ready .any ops listed = [] → ∀ t, t < len → listed[t]? = some true := by
    intro listed hsz hr t
    induction t using Nat.strongRecOn with
    | _ t ihh =>
      intro ht
      have hlt : t < listed.size := by omega
      cases hc : listed.getD t true with
      | true =>
        rw [Array.getD_eq_getD_getElem?] at hc
        simp only [hlt, Array.getElem?_eq_getElem, Option.getD_some] at hc
        simp [hlt, hc]
      | false =>
        exfalso
        have hm : t ∈ Region.ready .any ops listed := by
          rw [mem_ready]
          obtain ⟨o, ho⟩ : ∃ o, ops[t]? = some o := ⟨ops[t]'(by omega), by simp [show t < ops.size by omega]⟩
          refine ⟨hc, o, ho, fun e he hbe => ?_⟩
          obtain ⟨m, _, _, hb⟩ := hp.hm t o (by simpa using ho)
          have hlt := hb e (by simpa using he) (by rw [← bindsA_eq]; exact hbe)
          exact getD_true_iff.2 (ihh e.on hlt (by omega))
        rw [hr] at hm
        cases hm
  intro fuel
  induction fuel with
  | zero =>
    intro listed ρ xh xr a w hsz hu hI _
    have hr : Region.ready .any ops listed = [] := by
      cases h : Region.ready .any ops listed with
      | nil => rfl
      | cons x xs =>
        exfalso
        have hm : x ∈ Region.ready .any ops listed := by rw [h]; simp
        rw [mem_ready] at hm
        exact unl_zero _ hu x (getD_false_iff.1 hm.1)
    exact ⟨hr, hQ _ _ _ (hI.last hT hl (empty listed hsz hr))⟩
  | succ fuel ihf =>
    intro listed ρ xh xr a w hsz hu hI hD
    refine ⟨fun hr => hQ _ _ _ (hI.last hT hl (empty listed hsz hr)), fun i hi => ?_⟩
    rw [mem_ready] at hi
    obtain ⟨hif, o, ho, hpre⟩ := hi
    have hil : i < len := by rw [hlen]; exact (Array.getElem?_eq_some_iff.1 ho).1
    have hfl : listed.toList[i]? = some false := getD_false_iff.1 hif
    have hni : ¬ (listed[i]? = some true) := fun h => by rw [← Array.getElem?_toList, hfl] at h; cases h
    have hcl : ∀ b, Cl ms i b → listed[b]? = some true := by
      rintro b ⟨m, hm, hb⟩
      obtain ⟨m', h1, h2, _⟩ := hp.hm i o (by simpa using ho)
      rw [hm] at h1; cases h1
      obtain ⟨e, he, hbe, h⟩ := h2 b hb
      have hon := getD_true_iff.1 (hpre e (by simpa using he) (by rw [bindsA_eq]; exact hbe))
      rcases h with rfl | ⟨me, hme, hb'⟩
      · exact hon
      · exact hD e.on b hon ⟨me, hme, hb'⟩
    have hset : ∀ t, (listed.setIfInBounds i true)[t]? = some true ↔ (listed[t]? = some true ∨ t = i) := by
      intro t
      rw [Array.getElem?_setIfInBounds]
      by_cases h : i = t
      · subst h
        rw [if_pos rfl, if_pos (by omega)]
        simp
      · rw [if_neg h]
        exact ⟨.inl, fun hh => hh.resolve_right fun e => h e.symm⟩
    refine hI.step hE hI' hp hT hl h0 hD hni hil hcl fun ρ' xh' xr' a' w' hI2 => ?_
    refine ihf _ ρ' xh' xr' a' w' (by simpa using hsz) ?_ ?_ ?_
    · have := unl_set _ _ hfl
      rw [Array.toList_setIfInBounds]
      omega
    · have e : (fun t => (listed.setIfInBounds i true)[t]? = some true) = (fun t => listed[t]? = some true ∨ t = i) := funext fun t => propext (hset t)
      rw [e]; exact hI2
    · intro x y hx hy
      rw [hset] at hx ⊢
      rcases hx with hx | rfl
      · exact .inl (hD x y hx hy)
      · exact .inl (hcl y hy)

/-- **A region that draws its order.** -/
theorem draw_ok {ρ : Nm} {S : St} {a : Act} {w : World} (hS : Sat ρ S a w) {id : Nat} {r : Ex × St}
    (h : (prep ops.toList 0 .e .e fun ms dm => match drawGo E ih ops.toList ms dm ops.toList 0 [] S with
      | some S => some (Ex.normal, S)
      | none => none) = some r) {ro : Option Nat} : ∃ S', r = (.normal, S') ∧ (Code.region id ops true).wpIn (Fw ro) 0 P (CPost ρ S w .normal S') a w := by
  obtain ⟨ms, dm, h, hp⟩ := prep_ok ops.toList [] .e .e (by simpa using h) ⟨by simp, fun i m j h => by simp [T.get] at h, by simp, fun i m h => by simp [T.get] at h⟩
  simp only [List.nil_append] at hp
  split at h
  · rename_i S1 hd
    simp only [Option.some.injEq] at h
    subst h
    refine ⟨S1, rfl, wpIn_region_any hE.mixed ?_⟩
    obtain ⟨g, fp, recs, hT, hg0, hge⟩ := drawGo_ok (E := E) (ih := ih) (all := ops.toList) (ms := ms) (dm := dm) ops.toList 0 [] (fun _ => S) (fun _ => .all) (fun j => by simp) hd
      ⟨fun j o hj => by omega, fun r hr => by simp at hr, fun j hj => by omega, fun a b _ hb => by omega⟩
    have e0 : g 0 = S := hg0 0 (Nat.le_refl _)
    rw [Nat.zero_add] at hT hge
    have hS1 : Sat ρ S a { w with drawn := w.drawn + 1 } := ⟨hS.hs.world rfl, hS.size, hS.regs, hS.df⟩
    refine DInv.walk hE hI' (ρ0 := ρ) (w0 := w) hp hT rfl (by rw [e0]; exact fun x o hx => (hS.hs.objs x o hx).1) (fun ρ' a' w' hL => ?_) ops.size _ ρ S.h.get S.regs.get a _ (by simp) (by simp [unl_rep]) ?_ ?_
    · rw [hge, e0] at hL
      exact ⟨rfl, ρ', hL⟩
    · have nn : ∀ t : Nat, ¬ ((Array.replicate ops.size false)[t]? = some true) := by
        intro t h
        rw [Array.getElem?_replicate] at h
        split at h <;> cases h
      refine ⟨fun x => ⟨0, Nat.zero_le _, by rw [e0], fun t _ _ => ⟨fun h => by omega, fun h => absurd h (nn t)⟩, .inl rfl, fun o ho => by rw [e0]; exact hS1.hs.objs x o ho⟩,
        fun x => ⟨0, Nat.zero_le _, by rw [e0], fun t _ _ => ⟨fun h => by omega, fun h => absurd h (nn t)⟩, .inl rfl, fun v hv => by rw [e0]; exact hS1.regs x v hv⟩,
        hS1.hs.sep, hS1.hs.blk, fun x L hx => .inl ?_, by rw [e0]; exact hS1.size, by rw [e0]; exact hS1.df, by rw [e0]; exact agree.refl _ _, by rw [e0]; exact ⟨rfl, rfl, rfl, Nat.le_refl _, fun _ _ _ => rfl, fun _ h => .inl h⟩, fun j hj _ hdj => absurd hdj (nn j)⟩
      rw [e0]
      rcases Nat.lt_or_ge x S.nx with h | h
      · exact h
      · rw [hS1.hs.dom x h] at hx; cases hx
    · intro x y hx _
      rw [Array.getElem?_replicate] at hx
      split at hx <;> cases hx
  · cases h
end
end CX

/-
  CX: code: what the executor comes to is what the model comes to, whatever it draws.
-/
namespace CX
open Go

theorem roundsIn_mono {F : Fence} {n : Nat} {P : Program} {c : Code} {Q Q' : Exit → Act → World → Prop} (hq : ∀ e a w, Q e a w → Q' e a w) : ∀ (m : Nat) (a : Act) (w : World), Code.roundsIn F n P c Q m a w → Code.roundsIn F n P c Q' m a w
  | 0, _, _, h => h
  | m + 1, a, w, h => by
    rw [roundsIn_succ] at h ⊢
    refine wpIn_mono h fun e a w he => ?_
    cases e <;> first | exact roundsIn_mono hq m a w he | exact hq _ _ _ he

def IhLoop (P : Program) (ih : IH) (m : Nat) : Prop := ∀ rd c S e S', ih rd (.loop c) S = some (e, S') → ∀ ρ a w, Sat ρ S a w → RdOk ρ S.nx rd → Code.roundsIn (Fw (rdB ρ rd)) 0 P c (CPost ρ S w e S') m a w

theorem CPost.after {ρ ρ1 : Nm} {S S1 : St} {a1 : Act} {w w1 : World} (h : Lands ρ S w S1 a1 w1 ρ1) {e : Ex} {S' : St} {x : Exit} {a' : Act} {w' : World} (hp : CPost ρ1 S1 w1 e S' x a' w') : CPost ρ S w e S' x a' w' := by
  obtain ⟨h1, ρ2, h2⟩ := hp
  exact ⟨h1, ρ2, h.trans h2⟩

theorem run_enterLoop_inner {P : Program} {w : World} (fn : FuncId) (tmps : Array Value) (ps : Array Tmp) (assign body : Code) {l : Nat} {r : Loop} (h : w.heap[l]? = some (.loop r)) :
    (Instr.enterLoop fn tmps ps assign body (some l)).run P w = .ok (w.heap.size, []) (w.alloc (.loop { state := .ready, pending := none, fn, tmps, params := ps, assign, body, defers := r.defers })) := by
  unfold Instr.enterLoop
  simp only [Sem.run_bind, run_getLoop h, run_newObj_alloc, Result.andThen, Sem.run_pure]

section
variable {P : Program} {E : Env} (hE : EnvOk E P) {ih : IH} (hI : IhOk P ih)
include hE hI

/-- What a range over a function comes to, once the loop's record lies. -/
theorem range_ok {ρ ρ1 : Nm} {S : St} {a : Act} {w w1 : World} {nx1 : Nat} {g1 : T O} {lid : Nat} {L : Loc} {mark : List Deferred} {df' : List Nat} {rd : Option Nat} {fnn : FuncId}
    (hsize : a.tmps.size = S.nt) (hreg : RegsOk ρ S.nx S.regs a.tmps) (hS1 : HSat ρ1 g1.get nx1 w1) (hag : agree S.nx ρ ρ1) (hle : S.nx ≤ nx1) (hlid : lid < nx1) (hL : ρ1 lid = some L) (hfr : Fr (Own ρ S.h.get S.bar) w (Own ρ1 g1.get S.bar) w1)
    (hdf : RvD ρ1 nx1 df' (mark ++ a.defers)) {gop : Operand} {ps : Array Tmp} {assign body : Code} {f : Nat} {ga gb : List V} (hgo : evR S.regs gop = some (.fn (.func f) ga gb)) {r : Ex × St}
    (h : callF E ih S.bar g1 nx1 f (ga ++ [.fn (.yield lid) [] []] ++ gb) (fun _ h nx => match h.get lid with
          | some (.loop .busy ..) => none
          | some (.loop _ j ..) => setLoop S.bar h lid .exhausted j fun h => exitOf j ⟨S.nt, S.bar, S.regs, h, nx, df'⟩
          | _ => none) = some r) (henter : (Instr.enterLoop fnn a.tmps ps assign body (rdB ρ rd)).run P w = .ok (L.b, mark) w1) :
    ∃ (l : Nat) (mark : List Deferred) (w₁ : World) (d : Deferred) (w₁' : World) (f : FuncId) (args : Array Value) (w₂ : World),
      (Instr.enterLoop fnn a.tmps ps assign body (Fw (rdB ρ rd)).round).run P w = .ok (l, mark) w₁ ∧
      (resolve a.eval (rangeCall gop l) 0).run P w₁ = .ok d w₁' ∧
      (∀ f', Target.leads P w₁' d.target d.args = some f' → (Fw (rdB ρ rd)).fn f') ∧
      (invoke d.target d.args).run P w₁' = .ok (.enter f args) w₂ ∧
      ((Fw (rdB ρ rd)).depth.isSome = true → 1 ≤ 0) ∧
      CallsIn (Fw (rdB ρ rd)) (0 - 1) P f args w₂ (rangePost (Fw (rdB ρ rd)) 0 P l (CPost ρ S w r.1 r.2) { a with defers := mark ++ a.defers }) := by
  have hgv := evR_ok hreg gop _ hgo
  simp only [Rv] at hgv
  obtain ⟨xa, xb, g1', g2', g3'⟩ := hgv
  have ext : ∀ {l x}, RvL ρ S.nx l x → RvL ρ1 nx1 l x := fun h => RvL.ag hle hag h
  obtain ⟨v, g', n', fn, hk, e2, e3, e4⟩ := callF_ok hE hI hS1 (RvL.append (RvL.append (ext g1') (x' := [Value.func (.yield L.b) #[] #[]]) (by simp only [RvL, Rv]; exact ⟨⟨hlid, L, [], [], hL, trivial, trivial, rfl⟩, trivial⟩)) (ext g2')) h
  obtain ⟨hfn, hname⟩ := hE.fn _ _ e2
  have hname' : ¬ fn.name = "runtime.NumGoroutine" := hname
  have hev : ∀ x, a.eval (.const x) = x := fun _ => rfl
  refine ⟨L.b, mark, w1, { target := .fn (.func f) xb.toArray, args := xa.toArray ++ #[Value.func (.yield L.b) #[] #[]] }, w1, f, (xa ++ [Value.func (.yield L.b) #[] #[]] ++ xb).toArray, w1, henter, ?_, fun _ _ => trivial, ?_, by simp [Fw, Fence.wide], ?_⟩
  · simp [resolve, Deferred.ofValue, g3', hev]
  · simp [invoke, callFunc, hfn, hname', Option.isNone_iff_eq_none, Option.isSome_iff_ne_none.1 e3]
  · refine CallsIn.mono (e4 _) fun e w3 he => ?_
    obtain ⟨u, ρ3, rfl, d1, d2, d3, d4, d5⟩ := he
    have fin : ∀ {st : LoopState} {j : Option Code} {nt : Nat} {regs : T V} {ps' : List Nat} {a' b' : Code} {dfi : Nat}, g'.get lid = some (.loop st j nt regs ps' a' b' dfi) → st ≠ .busy →
        (setLoop S.bar g' lid .exhausted j fun h => exitOf j ⟨S.nt, S.bar, S.regs, h, n', df'⟩) = some r →
        rangePost (Fw (rdB ρ rd)) 0 P L.b (CPost ρ S w r.1 r.2) { a with defers := mark ++ a.defers } (.returned u) w3 := by
      intro st j nt regs ps' a' b' dfi hg hst hk
      obtain ⟨st0, j0, nt0, regs0, ps0, a0, b0, df0, hg0, hbar, hk⟩ := setLoop_ok hk
      rw [hg] at hg0
      cases hg0
      obtain ⟨L', D', fn', tm', k1, k2, k3, k4, k5, k6, k7, k8⟩ := loopObj d2 hg
      have hLe : L' = L := by rw [d3 lid hlid] at k2; rw [hL] at k2; exact (Option.some.inj k2).symm
      subst hLe
      obtain ⟨hS4, hF4⟩ := putLoop_ok (bar := S.bar) d2 hg hbar k2 k3 k4 k5 k6 (fn := fn') .exhausted j
      refine ⟨j, _, run_endLoop k7 hst, ?_⟩
      have hLand : Lands ρ S w ⟨S.nt, S.bar, S.regs, g'.up lid (some (.loop .exhausted j nt regs ps' a' b' dfi)), n', df'⟩ { a with defers := mark ++ a.defers } _ ρ3 :=
        ⟨⟨hS4, hsize, hreg.ext (Nat.le_trans hle d4) (fun i L hi hl => by rw [d3 i (by omega), hag i hi]; exact hl), hdf.ext d4 (fun i L hi hl => by rw [d3 i hi]; exact hl)⟩, hag.trans (d3.mono hle), Nat.le_trans hle d4, rfl, rfl, (hfr.trans d5).trans hF4⟩
      unfold exitOf at hk
      split at hk
      · simp only [Option.some.injEq] at hk
        subst hk
        exact ⟨rfl, ρ3, hLand⟩
      · simp only [Option.some.injEq] at hk
        subst hk
        exact wpIn_ret ⟨rfl, ρ3, hLand⟩
      · simp only [Option.some.injEq] at hk
        subst hk
        exact wpIn_exit ⟨rfl, ρ3, hLand⟩
      · cases hk
    split at hk
    · cases hk
    · rename_i hnb hg
      exact fin hg (fun e => hnb e) hk
    · cases hk

theorem rangeX_ok {rd : Option Nat} {gop : Operand} {ps : Array Tmp} {assign body : Code} {S : St} {r : Ex × St} (h : rangeX E ih rd gop ps assign body S = some r) {ρ : Nm} {a : Act} {w : World} (hS : Sat ρ S a w) (hrd : RdOk ρ S.nx rd) :
    (Code.rangeFunc gop ps assign body).wpIn (Fw (rdB ρ rd)) 0 P (CPost ρ S w r.1 r.2) a w := by
  unfold rangeX at h
  split at h
  · rename_i f ga gb hgo
    split at h
    · rename_i l
      split at h
      · rename_i q1 q2 q3 q4 q5 q6 q7 df hg
        rw [CX.new, T.set_eq] at h
        obtain ⟨L0, D, fn0, tm0, k1, k2, k3, k4, k5, k6, k7, k8⟩ := loopObj hS.hs hg
        have hrb : rdB ρ (some l) = some L0.b := by simp [rdB, k2]
        refine wpIn_rangeFunc fun fnn _ => ?_
        obtain ⟨hS1, hF1⟩ := hS.hs.new (bar := S.bar) (g' := (S.h.up S.nx (some (.loop .ready none S.nt S.regs ps.toList assign body df))).get) (w' := w.alloc (.loop { state := .ready, pending := none, fn := fnn, tmps := a.tmps, params := ps, assign := assign, body := body, defers := D.b })) (bs := 0) rfl ⟨rfl, rfl, rfl⟩
          (o := .loop .ready none S.nt S.regs ps.toList assign body df) (by
            simp only [ObjOk]
            refine ⟨⟨w.heap.size, 0, 0⟩, fnn, a.tmps, D, put_same _ _ _, by omega, ?_, hS.size, hS.regs.ext (Nat.le_succ _) (fun i L hi hl => ?_), ?_⟩
            · rw [Nm.put, if_neg (Nat.ne_of_lt k3)]; exact k4
            · rw [Nm.put, if_neg (Nat.ne_of_lt hi)]; exact hl
            · simpa using alloc_get w _) (fun id => T.get_up _ _ _ _)
        have hag := agree_put ρ S.nx ⟨w.heap.size, 0, 0⟩
        exact range_ok hE hI (mark := []) hS.size hS.regs hS1 hag (Nat.le_succ _) (Nat.lt_succ_self _) (put_same _ _ _) hF1 (hS.df.ext (Nat.le_succ _) (fun i L hi hl => by rw [hag i hi]; exact hl)) hgo h (by rw [hrb]; exact run_enterLoop_inner _ _ _ _ _ k7)
      · cases h
    · rw [CX.new, T.set_eq, CX.new, T.set_eq] at h
      refine wpIn_rangeFunc fun fnn _ => ?_
      obtain ⟨hS1, hF1⟩ := hS.hs.new (bar := S.bar) (g' := (S.h.up S.nx (some (.dfr true))).get) (w' := w.alloc (.deferred (some []))) (bs := 0) rfl ⟨rfl, rfl, rfl⟩ (o := .dfr true) (by
          simp only [ObjOk]
          exact ⟨⟨w.heap.size, 0, 0⟩, put_same _ _ _, by simpa using alloc_get w _⟩) (fun id => T.get_up _ _ _ _)
      have hag := agree_put ρ S.nx ⟨w.heap.size, 0, 0⟩
      obtain ⟨hS2, hF2⟩ := hS1.new (bar := S.bar) (g' := ((S.h.up S.nx (some (.dfr true))).up (S.nx + 1) (some (.loop .ready none S.nt S.regs ps.toList assign body S.nx))).get)
        (w' := (w.alloc (.deferred (some []))).alloc (.loop { state := .ready, pending := none, fn := fnn, tmps := a.tmps, params := ps, assign := assign, body := body, defers := w.heap.size })) (bs := 0) rfl ⟨rfl, rfl, rfl⟩
          (o := .loop .ready none S.nt S.regs ps.toList assign body S.nx) (by
            simp only [ObjOk]
            refine ⟨⟨(w.alloc (.deferred (some []))).heap.size, 0, 0⟩, fnn, a.tmps, ⟨w.heap.size, 0, 0⟩, put_same _ _ _, by omega, ?_, hS.size, hS.regs.ext (by omega) (fun i L hi hl => ?_), ?_⟩
            · rw [Nm.put, if_neg (by omega)]; exact put_same _ _ _
            · rw [Nm.put, if_neg (by omega), Nm.put, if_neg (by omega)]; exact hl
            · simpa using alloc_get (w.alloc (.deferred (some []))) _) (fun id => T.get_up _ _ _ _)
      have hag2 := agree_put (ρ.put S.nx ⟨w.heap.size, 0, 0⟩) (S.nx + 1) ⟨(w.alloc (.deferred (some []))).heap.size, 0, 0⟩
      have hagA := hag.trans (hag2.mono (Nat.le_succ _))
      refine range_ok hE hI (mark := [{ target := .collected w.heap.size, args := #[] }]) hS.size hS.regs hS2 hagA (by omega) (Nat.lt_succ_self _) (put_same _ _ _) (hF1.trans hF2) ?_ hgo h ?_
      · simp only [List.singleton_append, RvD]
        refine ⟨by omega, ⟨⟨w.heap.size, 0, 0⟩, ?_, rfl⟩, hS.df.ext (by omega) (fun i L hi hl => by rw [hagA i hi]; exact hl)⟩
        rw [Nm.put, if_neg (by omega)]; exact put_same _ _ _
      · have := run_enterLoop_outer (P := P) (w := w) fnn a.tmps ps assign body
        simpa [rdB] using this
  · cases h

omit hE in
theorem cxLoop_ok {m : Nat} (hLp : IhLoop P ih m) : IhLoop P (cxBody E ih) (m + 1) := by
  intro rd c S e S' h ρ a w hS hrd
  rw [roundsIn_succ]
  simp only [cxBody] at h
  split at h
  · rename_i S1 h1
    refine wpIn_mono (hI rd c _ _ _ h1 ρ a w hS hrd) ?_
    rintro x a1 w1 ⟨rfl, ρ1, hL⟩
    have := hLp rd c _ _ _ h ρ1 a1 w1 hL.sat (hrd.ag hL.ag hL.le)
    rw [rdB_ag hrd hL.ag] at this
    exact roundsIn_mono (fun x a2 w2 hp => hp.after hL) m a1 w1 this
  · rename_i hne
    refine wpIn_mono (hI rd c _ _ _ h ρ a w hS hrd) ?_
    rintro x a1 w1 ⟨rfl, hp⟩
    cases e with
    | normal => exact (hne _ h).elim
    | ret => exact ⟨rfl, hp⟩
    | exit id => exact ⟨rfl, hp⟩

/-- **One level of code.** -/
theorem cxBody_ok {m : Nat} (hLp : IhLoop P ih m) : IhOk P (cxBody E ih) := by
  intro rd c S e S' h ρ a w hS hrd
  cases c with
  | skip => simp only [cxBody, Option.some.injEq, Prod.mk.injEq] at h; obtain ⟨rfl, rfl⟩ := h; exact wpIn_skip ⟨rfl, ρ, hS.lands⟩
  | label l => simp only [cxBody, Option.some.injEq, Prod.mk.injEq] at h; obtain ⟨rfl, rfl⟩ := h; exact wpIn_label ⟨rfl, ρ, hS.lands⟩
  | ret => simp only [cxBody, Option.some.injEq, Prod.mk.injEq] at h; obtain ⟨rfl, rfl⟩ := h; exact wpIn_ret ⟨rfl, ρ, hS.lands⟩
  | exit id => simp only [cxBody, Option.some.injEq, Prod.mk.injEq] at h; obtain ⟨rfl, rfl⟩ := h; exact wpIn_exit ⟨rfl, ρ, hS.lands⟩
  | seq c1 c2 =>
    simp only [cxBody] at h
    split at h
    · rename_i S1 h1
      refine wpIn_seq (wpIn_mono (hI rd c1 _ _ _ h1 ρ a w hS hrd) ?_)
      rintro x a1 w1 ⟨rfl, ρ1, hL⟩
      have := hI rd c2 _ _ _ h ρ1 a1 w1 hL.sat (hrd.ag hL.ag hL.le)
      rw [rdB_ag hrd hL.ag] at this
      exact wpIn_mono this fun x a2 w2 hp => hp.after hL
    · rename_i hne
      refine wpIn_seq (wpIn_mono (hI rd c1 _ _ _ h ρ a w hS hrd) ?_)
      rintro x a1 w1 ⟨rfl, hp⟩
      cases e with
      | normal => exact (hne _ h).elim
      | ret => exact ⟨rfl, hp⟩
      | exit id => exact ⟨rfl, hp⟩
  | block id c1 =>
    simp only [cxBody] at h
    split at h
    · rename_i i S1 h1
      refine wpIn_block (wpIn_mono (hI rd c1 _ _ _ h1 ρ a w hS hrd) ?_)
      rintro x a1 w1 ⟨rfl, hp⟩
      simp only [exO, Exit.inBlock]
      split at h
      · rename_i hb
        simp only [Option.some.injEq, Prod.mk.injEq] at h
        obtain ⟨rfl, rfl⟩ := h
        rw [if_pos (Nat.eq_of_beq_eq_true hb)]
        exact ⟨rfl, hp⟩
      · rename_i hb
        simp only [Option.some.injEq, Prod.mk.injEq] at h
        obtain ⟨rfl, rfl⟩ := h
        rw [if_neg (fun e => by subst e; simp at hb)]
        exact ⟨rfl, hp⟩
    · rename_i hne
      refine wpIn_block (wpIn_mono (hI rd c1 _ _ _ h ρ a w hS hrd) ?_)
      rintro x a1 w1 ⟨rfl, hp⟩
      cases e with
      | normal => exact ⟨rfl, hp⟩
      | ret => exact ⟨rfl, hp⟩
      | exit id => exact (hne _ _ h).elim
  | cond x c1 c2 =>
    simp only [cxBody] at h
    split at h
    · rename_i hx
      have hv := evR_ok hS.regs x _ hx
      simp only [Rv] at hv
      exact wpIn_cond_true hv (hI rd c1 _ _ _ h ρ a w hS hrd)
    · rename_i hx
      have hv := evR_ok hS.regs x _ hx
      simp only [Rv] at hv
      exact wpIn_cond_false hv (hI rd c2 _ _ _ h ρ a w hS hrd)
    · cases h
  | loop c1 =>
    exact wpIn_loop_rounds (m + 1) (cxLoop_ok hI hLp rd c1 S e S' h ρ a w hS hrd)
  | region id ops draw =>
    cases draw with
    | true =>
      obtain ⟨S1, h1, h2⟩ := draw_ok (id := id) (ro := rdB ρ rd) hE hI hS h
      simp only [Prod.mk.injEq] at h1
      obtain ⟨rfl, rfl⟩ := h1
      exact h2
    | false =>
      simp only [cxBody] at h
      refine wpIn_region ?_
      rw [List.range_eq_range']
      have := seqOps_ok hE hI (ro := rdB ρ rd) ops (ρ0 := ρ) (S0 := S) (w0 := w) ops.toList 0 S (fun j => by simp) h hS.lands (Q := CPost ρ S w e S') (fun S1 ρ1 a1 w1 h1 hL => by
        simp only [Option.some.injEq, Prod.mk.injEq] at h1
        obtain ⟨rfl, rfl⟩ := h1
        exact ⟨rfl, ρ1, hL⟩)
      simpa using this
  | rangeFunc gop ps assign body =>
    have := rangeX_ok hE hI (rd := rd) (r := (e, S')) h hS hrd
    exact this
  | _ => cases h

omit hI in
theorem cx_ok : ∀ n, IhOk P (cx E n) ∧ IhLoop P (cx E n) n
  | 0 => ⟨fun rd c S e S' h => absurd (show (none : R) = some (e, S') from h) (by simp), fun rd c S e S' h => absurd (show (none : R) = some (e, S') from h) (by simp)⟩
  | n + 1 => ⟨cxBody_ok hE (cx_ok n).1 (cx_ok n).2, cxLoop_ok (cx_ok n).1 (cx_ok n).2⟩

/-- The world has grown; what there was lies as it lay. -/
def Kept (w w' : World) : Prop := w'.os = w.os ∧ w'.tape = w.tape ∧ w'.output = w.output ∧ w.heap.size ≤ w'.heap.size ∧ ∀ b, b < w.heap.size → w'.heap[b]? = w.heap[b]?

omit hI in
/-- **What the executor says of a call holds.** -/
theorem cx_call {f : FuncId} {n : Nat} {v : V} {args : List V} {xs : List Value} (ha : RvL (fun _ => none) 0 args xs) (h : callF E (cx E n) 0 .e 0 f args (fun v _ _ => retV v .e 0) = some (.normal, ⟨0, 0, .n .e (some v) .e, .e, 0, []⟩)) (w : World) :
    Calls P f xs.toArray w fun e w' => ∃ u ρ n, e = .returned u ∧ Rv ρ n v u ∧ Kept w w' := by
  obtain ⟨v', g', n', fn, h1, _, _, h2⟩ := callF_ok hE (cx_ok hE n).1 (ρ := fun _ => none) (n := 0) (bar := 0) (g := .e) (w := w) (xs := xs) ⟨fun id o h => by simp [T.get] at h, fun id o id' o' h => by simp [T.get] at h, fun _ _ => rfl, fun _ _ h => by cases h⟩ ha h
  have e : v' = v := by
    simp only [retV, Option.some.injEq, Prod.mk.injEq, St.mk.injEq, T.n.injEq, true_and, and_true] at h1
    exact h1
  subst e
  refine (callsIn_wide.1 (h2 none)).mono fun e w' he => ?_
  obtain ⟨u, ρ', rfl, d1, _, _, _, d5⟩ := he
  refine ⟨u, ρ', n', rfl, d1, d5.os, d5.tape, d5.output, d5.size, fun b hb => d5.keep b hb ?_⟩
  rintro ⟨id, o, L, _, h, _⟩
  simp [T.get] at h
end
end CX

/-
  CX: the closed function works() of this chapter's laws returns true, whatever the model draws: run in the kernel.
-/
namespace CX
open Go Go.Proofs

theorem names_ok : T.allB (fun fn : Func => fn.name != "runtime.NumGoroutine") fnT = true := by kernel_rfl
theorem types_ok : tabChk Tryz.prog env.T 258 = true := by kernel_rfl

theorem env_ok : EnvOk env Tryz.prog := by
  refine ⟨fun t ty h => ?_, fun f fn h => ?_, by kernel_rfl⟩
  · refine tabChk_ok 258 types_ok t ty ?_ h
    simp only [env] at h
    split at h
    · rename_i hb; simpa [Nat.blt_eq] using hb
    · cases h
  · refine ⟨T.All.get fnT id fnT_ok f fn h, ?_⟩
    have := T.All.get fnT id (T.allB_ok fnT id names_ok) f fn h
    simpa using this

theorem works_run : callF env (cx env 1000) 0 .e 0 18 [] (fun v _ _ => retV v .e 0) = some (.normal, ⟨0, 0, .n .e (some (.bool true)) .e, .e, 0, []⟩) := by kernel_rfl

/-- **works() returns true; what there was lies as it lay.** -/
theorem works_ok (w : World) : Calls Tryz.prog 18 #[] w fun e w' => e = .returned (.bool true) ∧ Kept w w' := by
  refine (cx_call env_ok (xs := []) (by simp [RvL]) works_run w).mono fun e w' he => ?_
  obtain ⟨u, ρ, n, rfl, h, rest⟩ := he
  simp only [Rv] at h
  subst h
  exact ⟨rfl, rest⟩
end CX

/-
  CodeRates: the law's own function returns true.
-/
namespace SX
open Go Go.Proofs
set_option maxRecDepth 100000

def worksRes (_ : List (List D)) (_ _ : Nat) : D := .ofP True

theorem works_pure : PureFn Tryz.prog ⟨[], [(false, [.bool])]⟩ 18 (fun _ => True) worksRes := by
  intro w R args ds hR hargs _
  have e : args = [] := by
    cases args with
    | nil => rfl
    | cons a l => cases ds <;> simp [ArgsRd] at hargs
  subst e
  refine (CX.works_ok w).mono fun e w' h => ?_
  obtain ⟨he, h1, h2, h3, h4, h5⟩ := h
  refine ⟨[.bool true], R, he, ⟨h1, h2, h3, h4, h5⟩, fun b hb => hb, fun b hb => .inl hb, ⟨⟨[.bool true], by simp, by simp, rfl, ?_⟩, trivial⟩⟩
  simp only [RdKs, RdK, and_true]
  exact ⟨_, rfl, congrArg Value.bool (@decide_eq_true _ (Classical.propDecidable _) (show (worksRes ds 0 0).p from trivial)).symm⟩

noncomputable def c13 : Ctr := ⟨13, ⟨[(false, [.int .i64]), (false, [.int .i64]), (false, [.int .i64])], [(false, [.sl [.int .i64]]), (false, [.int .i64])]⟩, fun _ => True, rateRes⟩
noncomputable def c14 : Ctr := ⟨14, ⟨[(false, [.int .i64]), (false, [.int .i64]), (false, [.int .i64])], [(false, [.sl [.int .i64]]), (false, [.int .i64])]⟩, fun _ => True, rateRes⟩
noncomputable def c16 : Ctr := ⟨16, ⟨[(false, [.int .i64]), (false, [.int .i64]), (false, [.int .i64]), (false, [.int .i64])], [(false, [.int .i64]), (false, [.int .i64]), (false, [.int .i64])]⟩, fun _ => True, unRes⟩
noncomputable def c17 : Ctr := ⟨17, ⟨[(false, [.int .i64]), (false, [.int .i64]), (false, [.int .i64]), (false, [.int .i64])], [(false, [.int .i64]), (false, [.int .i64]), (false, [.int .i64])]⟩, fun _ => True, unRes⟩
def c18 : Ctr := ⟨18, ⟨[], [(false, [.bool])]⟩, fun _ => True, worksRes⟩
noncomputable def cs2 : List Ctr := [c13, c14, c15, c16, c17, c18]
noncomputable def sg2 : List (Nat × Sig) := cs2.map fun c => (c.f, c.sg)

theorem codeRates_pure {A pre fn} (hE : EnvOk ⟨A, tabF, sigL sg2, pre, fn, inlL inlH, cmpL cmpT⟩ Tryz.prog) (H : Has pre fn cs2) : PureFn Tryz.prog ⟨[(false, [.int .i64]), (false, [.int .i64]), (false, [.int .i64]), (false, [.int .i64]), (false, [.int .i64])], [(false, [.bool])]⟩ 3
    (fun _ => True) worksRes := by
  have hf := Tryz.func3
  have h13 := H c13 (by simp [cs2])
  have h14 := H c14 (by simp [cs2])
  have h15 := H c15 (by simp [cs2])
  have h16 := H c16 (by simp [cs2])
  have h17 := H c17 (by simp [cs2])
  have h18 := H c18 (by simp [cs2])
  simp only [c13, c14, c15, c16, c17, c18] at h13 h14 h15 h16 h17 h18
  generalize Tryz.prog = P at *
  refine PureFn.of_vc hE 0 hf ?_
  intro v m t c l _
  have hA := hE.A
  simp only [] at hA
  generalize hR : worksRes = R at h18
  have fin : ∀ p : Prop, p → DEq .bool (A.ofP p) (R [[v], [m], [t], [c], [l]] 0 0) := fun p hp => ⟨by
    subst hR hA
    simpa [dEq, worksRes, Ar.std, D.ofP, D.p] using hp⟩
  cbv
  repeat' (first | (refine Br.mk (fun _ => ?_) (fun _ => ?_) <;> cbv) | refine And.intro ?_ ?_ | exact True.intro)
  all_goals (try (first | (rw [h13.1]; exact True.intro) | (rw [h14.1]; exact True.intro) | (rw [h15.1]; exact True.intro) | (rw [h16.1]; exact True.intro) | (rw [h17.1]; exact True.intro) | (rw [h18.1]; exact True.intro)))
  all_goals (
    refine fin _ ?_
    (try clear hE)
    subst hA
    rw [h13.2, h14.2, h15.2, h16.2, h17.2, h18.2] at *
    simp only [Ar.std, numbersRes, numEq, arg, D.p_ofP, List.getD_cons_zero, List.getD_cons_succ, not_true_eq_false, not_false_eq_true, and_self, implies_true] at *)
  subst hR
  exact trivial
end SX

/-
  Plain laws about rates: spikes are spread evenly. No program in sight.
-/
namespace Rates

theorem tick_lt_iff (m x k t : Int) (hm : 1 ≤ m) (hx : 1 ≤ x) : ((k + 1) * m + x - 1) / x - 1 < t ↔ k + 1 ≤ t * x / m := by
  rw [Int.le_ediv_iff_mul_le (by omega)]
  have h : ((k + 1) * m + x - 1) / x - 1 < t ↔ ((k + 1) * m + x - 1) / x < t + 1 := by omega
  rw [h, Int.ediv_lt_iff_lt_mul (by omega), Int.add_mul t, Int.one_mul]
  omega

theorem succ_le (m x t : Int) (hm : 1 ≤ m) (hxm : x ≤ m) : (t + 1) * x / m ≤ t * x / m + 1 := by
  have h : (t + 1) * x / m < t * x / m + 2 := by
    rw [Int.ediv_lt_iff_lt_mul (by omega), Int.add_mul, Int.one_mul, Int.add_mul]
    have := Int.lt_mul_ediv_self_add (x := t * x) (k := m) (by omega)
    rw [Int.mul_comm m] at this
    omega
  omega

theorem tick_mono (m x k : Int) (hm : 1 ≤ m) (hx : 1 ≤ x) (hxm : x ≤ m) : ((k + 1) * m + x - 1) / x - 1 < ((k + 1 + 1) * m + x - 1) / x - 1 := by
  rw [tick_lt_iff m x k _ hm hx]
  have h1 := (tick_lt_iff m x (k + 1) (((k + 1 + 1) * m + x - 1) / x - 1 + 1) hm hx).1 (by omega)
  have h2 := succ_le m x (((k + 1 + 1) * m + x - 1) / x - 1) hm hxm
  omega

theorem part (m x a w : Int) (hm : 1 ≤ m) : w * x / m ≤ (a + w) * x / m - a * x / m ∧ (a + w) * x / m - a * x / m ≤ w * x / m + 1 := by
  have e : (a + w) * x = a * x + w * x := Int.add_mul _ _ _
  rw [e]
  generalize a * x = p
  generalize w * x = q
  have p1 := Int.mul_ediv_self_le (x := p) (k := m) (by omega)
  have p2 := Int.lt_mul_ediv_self_add (x := p) (k := m) (by omega)
  have q1 := Int.mul_ediv_self_le (x := q) (k := m) (by omega)
  have q2 := Int.lt_mul_ediv_self_add (x := q) (k := m) (by omega)
  rw [Int.mul_comm m] at p1 p2 q1 q2
  constructor
  · have : q / m + p / m ≤ (p + q) / m := by
      rw [Int.le_ediv_iff_mul_le (by omega), Int.add_mul]
      omega
    omega
  · have : (p + q) / m < p / m + q / m + 2 := by
      rw [Int.ediv_lt_iff_lt_mul (by omega), Int.add_mul, Int.add_mul]
      omega
    omega
end Rates

/-
  CX: how a statement is closed: the world has grown, the arguments read as they read.
-/
namespace CX
open Go Go.ChangeShapes Go.WideShapes

theorem Kept.frozen {w w' : World} (h : Kept w w') {a : Addr} (ha : a.block < w.heap.size) : w'.frozen? a = w.frozen? a := by
  simp only [World.frozen?, h.2.2.2.2 a.block ha]

theorem Kept.but {w w' : World} (h : Kept w w') (may : MemPlace → Prop) : w.keptBut w' may := by
  refine ⟨h.1, h.2.2.1, fun i hi => ?_⟩
  rw [h.2.2.2.2 i hi]
  obtain ⟨o, ho⟩ : ∃ o, w.heap[i]? = some o := ⟨w.heap[i], by simp [hi]⟩
  rw [ho]
  cases o with
  | cells c t fr => exact ⟨rfl, rfl, rfl, fun _ _ => rfl⟩
  | map es c => exact .inr ⟨rfl, rfl⟩
  | _ => rfl

section
variable {H : Type} {enc : TypeId × Value → H} {P : Program}

theorem post_kept {f : Func} {s : ChangeSpec} {apart fresh handsOn again : Bool} {W W' : World} {args : Array Value} {v : Value} {ds gs : List (DataW H)} {before pa pv : List MemPlace}
    (hW : DataW.Whole enc P f.params.toList s.vars apart W args.toList ds gs before)
    (hres : ∀ (b : Nat) (sp : Nat → Bool) (hd : Bool), DataW.TrodAll enc P W' b sp hd f.resultTypes.toList (v.resultList f.resultTypes.size) (s.fn H (ds ++ gs)).results [])
    (hargs : ∀ sp : Nat → Bool, (∀ p ∈ before, sp p.block = true) → DataW.TrodAll enc P W' 0 sp true f.params.toList args.toList (s.fn H (ds ++ gs)).args pa)
    (hvars : ∀ sp : Nat → Bool, (∀ p ∈ before, sp p.block = true) → DataW.TrodVars enc P W' sp s.vars (s.fn H (ds ++ gs)).vars pv)
    (hps : before = pa ++ pv) (hk : Kept W W')
    (hok : ∀ (j : Nat) (t : TypeId) (r : Value), f.resultTypes[j]? = some t → (v.resultList f.resultTypes.size)[j]? = some r → Value.okWide P W' .any 0 t r) :
    s.post enc P f apart fresh handsOn again W args v W' := by
  have hold : ∀ p ∈ before, (fun b => decide (b < W.heap.size)) p.block = true := fun p hp => by simpa using hW.lt p hp
  have hlt := hW.lt
  refine ⟨ds, gs, before, [], pa, pv, hW, hres _ _ _, hargs _ hold, hvars _ hold, World.keptBut_mono (fun p hp => ⟨hp, ?_⟩) (hk.but (· ∈ before)), fun _ => ?_⟩
  · rw [hps, List.mem_append] at hp
    exact Or.inr hp
  · obtain ⟨_, _, _, _, _, hz, hn⟩ := hW
    refine ⟨hok, _, _, ([] ++ pa) ++ pv, ⟨[] ++ pa, pv, trodAll_append (hargs _ (fun _ _ => rfl)) (hres _ _ _), hvars _ (fun _ _ => rfl), rfl, ?_, ?_⟩, ?_⟩
    · intro b off hp
      have hp' : MemPlace.cell b off ∈ before := by rw [hps]; simpa using hp
      rw [hk.frozen (hlt _ hp')]
      exact hz b off hp'
    · intro ha
      have := hn ha
      rw [hps] at this
      simpa using this
    · intro p hp _
      rw [hps]
      simpa using hp
end
end CX

/-
  SX: from the law of a statement's function to the statement: arguments of ints, bools, strings, slices, structs and arrays are read as data; behind the call they read as they read.
-/
namespace SX
open Go Go.ChangeShapes Go.WideShapes Go.ChangeAt Go.RowKit

/-- The kinds of a type's cells. -/
def descF (g : TypeId → Option (List Kd)) (P : Program) : List Field → Nat → Option (List Kd)
  | [], _ => some []
  | f :: r, off => match g f.type with
    | some ks => match Nat.beq f.offset off && Nat.beq (P.cellsOf f.type) ks.length with
      | true => match descF g P r (off + ks.length) with
        | some ks' => some (ks ++ ks')
        | none => none
      | false => none
    | none => none

def repK (ks : List Kd) : Nat → List Kd
  | 0 => []
  | n + 1 => ks ++ repK ks n

def desc (P : Program) : Nat → TypeId → Option (List Kd)
  | 0, _ => none
  | n + 1, t => match P.underlying t with
    | some .bool => some [.bool]
    | some (.int k) => some [.int k]
    | some .string => some [.str]
    | some (.slice e) => match desc P n e with
      | some (k :: ks) => match Nat.beq (P.cellsOf e) (ks.length + 1) with
        | true => some [.sl (k :: ks)]
        | false => none
      | _ => none
    | some (.struct fs) => match descF (desc P n) P fs.toList 0 with
      | some ks => match Nat.beq (P.cellsOf t) ks.length with
        | true => some ks
        | false => none
      | none => none
    | some (.array m e) => match desc P n e with
      | some ks => match Nat.beq (P.cellsOf e) ks.length && Nat.beq (P.cellsOf t) (repK ks m).length with
        | true => some (repK ks m)
        | false => none
      | none => none
    | _ => none

mutual
/-- Numbers are within their kinds. -/
def RngK : Kd → D → Prop
  | .int k, d => k.min ≤ d.i ∧ d.i ≤ k.max
  | .sl ks, d => ∀ r, r < d.n → RngKs ks (d.row r) 0
  | _, _ => True
def RngKs : List Kd → (Nat → D) → Nat → Prop
  | [], _, _ => True
  | k :: ks, f, c => RngK k (f c) ∧ RngKs ks f (c + 1)
end

theorem rngKs_ext : ∀ (ks : List Kd) (f f' : Nat → D) (c c' : Nat), (∀ j, j < ks.length → f (c + j) = f' (c' + j)) → RngKs ks f c → RngKs ks f' c'
  | [], _, _, _, _, _, _ => trivial
  | k :: ks, f, f', c, c', h, hr => by
    have h0 := h 0 (by simp)
    rw [Nat.add_zero, Nat.add_zero] at h0
    refine ⟨by rw [← h0]; exact hr.1, rngKs_ext ks f f' (c + 1) (c' + 1) (fun j hj => ?_) hr.2⟩
    have := h (j + 1) (by simpa using hj)
    rw [show c + 1 + j = c + (j + 1) by omega, show c' + 1 + j = c' + (j + 1) by omega]
    exact this

theorem rdKs_ext2 {w : World} {R : Nat → Prop} : ∀ (ks : List Kd) (f f' : Nat → D) (g g' : Nat → Option Value) (c c' : Nat), (∀ j, j < ks.length → f (c + j) = f' (c' + j)) → (∀ j, j < ks.length → g (c + j) = g' (c' + j)) →
    RdKs w R ks f g c → RdKs w R ks f' g' c'
  | [], _, _, _, _, _, _, _, _, _ => trivial
  | k :: ks, f, f', g, g', c, c', h, hg, hr => by
    have h0 := h 0 (by simp)
    have g0 := hg 0 (by simp)
    rw [Nat.add_zero, Nat.add_zero] at h0 g0
    refine ⟨by rw [← h0, ← g0]; exact hr.1, rdKs_ext2 ks f f' g g' (c + 1) (c' + 1) (fun j hj => ?_) (fun j hj => ?_) hr.2⟩
    · have := h (j + 1) (by simpa using hj)
      rw [show c + 1 + j = c + (j + 1) by omega, show c' + 1 + j = c' + (j + 1) by omega]
      exact this
    · have := hg (j + 1) (by simpa using hj)
      rw [show c + 1 + j = c + (j + 1) by omega, show c' + 1 + j = c' + (j + 1) by omega]
      exact this

/-- What a list of cells holds. -/
def Holds (w : World) (ks : List Kd) (cs : List Value) : Prop :=
  ∃ f : Nat → D, cs.length = ks.length ∧ RdKs w (fun b => b < w.heap.size) ks f (fun c => cs[c]?) 0 ∧ RngKs ks f 0

theorem Holds.append {w : World} {ks ks' : List Kd} {cs cs' : List Value} (h : Holds w ks cs) (h' : Holds w ks' cs') : Holds w (ks ++ ks') (cs ++ cs') := by
  obtain ⟨f, hl, hr, hg⟩ := h
  obtain ⟨f', hl', hr', hg'⟩ := h'
  refine ⟨fun c => if c < ks.length then f c else f' (c - ks.length), by simp [hl, hl'], rdKs_split ks ks' 0 ?_ ?_, ?_⟩
  · refine rdKs_ext2 ks f _ _ _ 0 0 (fun j hj => by simp [hj]) (fun j hj => ?_) hr
    simp only [Nat.zero_add]
    rw [List.getElem?_append_left (by omega)]
  · refine rdKs_ext2 ks' f' _ _ _ 0 (0 + ks.length) (fun j hj => ?_) (fun j hj => ?_) hr'
    · simp only [Nat.zero_add]
      rw [if_neg (by omega), Nat.add_sub_cancel_left]
    · simp only [Nat.zero_add]
      rw [List.getElem?_append_right (by omega), hl, Nat.add_sub_cancel_left]
  · have e : ∀ (a b : List Kd) (F : Nat → D) (c : Nat), RngKs a F c → RngKs b F (c + a.length) → RngKs (a ++ b) F c := by
      intro a
      induction a with
      | nil => intro b F c _ h; simpa using h
      | cons k a ih =>
        intro b F c h1 h2
        refine ⟨h1.1, ih b F (c + 1) h1.2 ?_⟩
        rw [List.length_cons] at h2
        rwa [show c + 1 + a.length = c + (a.length + 1) by omega]
    refine e ks ks' _ 0 (rngKs_ext ks f _ 0 0 (fun j hj => by simp [hj]) hg) (rngKs_ext ks' f' _ 0 _ (fun j hj => ?_) hg')
    simp only [Nat.zero_add]
    rw [if_neg (by omega), Nat.add_sub_cancel_left]

theorem Holds.nil {w : World} : Holds w [] [] := ⟨fun _ => .nil, rfl, trivial, trivial⟩

theorem addr_add2 (a : Addr) (i c : Nat) : (a.add i).add c = a.add (i + c) := by
  unfold Addr.add
  by_cases hi : i = 0
  · subst hi; simp
  · by_cases hc : c = 0
    · subst hc; simp [hi]
    · simp [hi, hc, Nat.add_assoc]

theorem mapM_at {α β : Type} {f : α → Option β} : ∀ {l : List α} {r : List β}, l.mapM f = some r → r.length = l.length ∧ ∀ (i : Nat) (h : i < l.length), ∃ y, f l[i] = some y ∧ r[i]? = some y
  | [], r, h => by
    simp only [List.mapM_nil, Option.pure_def, Option.some.injEq] at h
    subst h
    exact ⟨rfl, fun i h => by simp at h⟩
  | x :: xs, r, h => by
    rw [List.mapM_cons] at h
    cases hx : f x with
    | none => simp [hx] at h
    | some y =>
      cases hxs : xs.mapM f with
      | none => simp [hx, hxs] at h
      | some ys =>
        simp only [hx, hxs, Option.bind_eq_bind, Option.bind_some, Option.pure_def, Option.some.injEq] at h
        subst h
        obtain ⟨h1, h2⟩ := mapM_at hxs
        refine ⟨by simp [h1], fun i hi => ?_⟩
        cases i with
        | zero => exact ⟨y, by simpa using hx, by simp⟩
        | succ i =>
          obtain ⟨z, e1, e2⟩ := h2 i (by simpa using hi)
          exact ⟨z, by simpa using e1, by simpa using e2⟩

theorem cells_get {w : World} {base : Nat} {a : Addr} {n : Nat} {cs : List Value} (h : w.cells? base a n = some cs) : cs.length = n ∧ (0 < n → a.block < w.heap.size) ∧ ∀ c, c < n → w.cell? (a.add c) = cs[c]? := by
  unfold World.cells? at h
  split at h
  · obtain ⟨h1, h2⟩ := mapM_at h
    rw [List.length_range] at h1
    have key : ∀ c, c < n → w.cell? (a.add c) = cs[c]? := fun c hc => by
      obtain ⟨y, e1, e2⟩ := h2 c (by simpa using hc)
      rw [List.getElem_range] at e1
      rw [e1, e2]
    refine ⟨h1, fun h0 => ?_, key⟩
    obtain ⟨y, e1, _⟩ := h2 0 (by simpa using h0)
    rw [List.getElem_range] at e1
    rcases Nat.lt_or_ge a.block w.heap.size with hb | hb
    · exact hb
    · exfalso
      unfold World.cell? at e1
      rw [add_block] at e1
      rw [Array.getElem?_eq_none (by omega)] at e1
      cases e1
  · cases h

section
variable {H : Type} {enc : TypeId × Value → H} {P : Program} {w : World} {base : Nat} {spare : Nat → Bool} {held : Bool}

theorem wf_rng {k : IntKind} {n : Int} (h : (Lit.int k n).wf = true) : k.min ≤ n ∧ n ≤ k.max := by
  simpa [Lit.wf] using h

theorem holds_one {k : Kd} {d : D} {u : Value} (h : RdK w (fun b => b < w.heap.size) k d u) (hr : RngK k d) : Holds w [k] [u] :=
  ⟨fun _ => d, rfl, ⟨⟨u, rfl, h⟩, trivial⟩, hr, trivial⟩

theorem holds_rep {ks : List Kd} {cs : List Value} (m : Nat) (hl : cs.length = (repK ks m).length) (h : ∀ i, i < m → Holds w ks ((cs.drop (i * ks.length)).take ks.length)) : Holds w (repK ks m) cs := by
  induction m generalizing cs with
  | zero =>
    have : cs = [] := List.length_eq_zero_iff.1 (by simpa [repK] using hl)
    subst this
    exact Holds.nil
  | succ m ih =>
    have e : cs = cs.take ks.length ++ cs.drop ks.length := (List.take_append_drop _ _).symm
    rw [e]
    refine Holds.append (by simpa using h 0 (by omega)) (ih ?_ fun i hi => ?_)
    · simp only [List.length_drop, hl, repK, List.length_append]
      omega
    · have := h (i + 1) (by omega)
      rwa [List.drop_drop, show ks.length + i * ks.length = (i + 1) * ks.length by rw [Nat.add_mul]; omega]

theorem holds_fields {g : TypeId → Option (List Kd)} {cs : List Value} : ∀ (fs : List Field) (off : Nat) (ks : List Kd), descF g P fs off = some ks → cs.length = off + ks.length →
    (∀ f ∈ fs, ∀ ks', g f.type = some ks' → Holds w ks' ((cs.drop f.offset).take (P.cellsOf f.type))) → Holds w ks (cs.drop off)
  | [], off, ks, h, hl, _ => by
    simp only [descF, Option.some.injEq] at h
    subst h
    have : cs.drop off = [] := List.drop_eq_nil_of_le (by simp at hl; omega)
    rw [this]
    exact Holds.nil
  | f :: r, off, ks, h, hl, hf => by
    simp only [descF] at h
    split at h
    · rename_i ks1 hk
      split at h
      · rename_i hb
        simp only [Bool.and_eq_true, Nat.beq_eq] at hb
        split at h
        · rename_i ks2 hks2
          simp only [Option.some.injEq] at h
          subst h
          have e : cs.drop off = (cs.drop off).take ks1.length ++ (cs.drop off).drop ks1.length := (List.take_append_drop _ _).symm
          rw [e]
          refine Holds.append ?_ ?_
          · have := hf f (by simp) ks1 hk
            rwa [hb.1, hb.2] at this
          · rw [List.drop_drop]
            exact holds_fields r (off + ks1.length) ks2 hks2 (by rw [hl, List.length_append]; omega) (fun f' hf' => hf f' (by simp [hf']))
        · cases h
      · cases h
    · cases h

theorem trod_array {t e : TypeId} {n m : Nat} {cs : List Value} {x : DataW H × List MemPlace} (ht : P.underlying t = some (.array n e)) (h : DataW.trod enc P w base spare held (m + 1) t cs = some x) :
    cs.length = P.cellsOf t ∧ ∀ i, i < n → ∃ y, DataW.trod enc P w base spare held m e ((cs.drop (i * P.cellsOf e)).take (P.cellsOf e)) = some y := by
  unfold DataW.trod at h
  rw [ht] at h
  split at h <;> simp_all
  obtain ⟨hl, h⟩ := h
  obtain ⟨a, h, _⟩ := h
  obtain ⟨h1, h2⟩ := mapM_at h
  intro i hi
  obtain ⟨y, e1, _⟩ := h2 i (by simpa using hi)
  rw [List.getElem_range] at e1
  exact ⟨y.1, y.2, by simpa using e1⟩

/-- What reads as data by the claim's reading reads as data here. -/
theorem holds_of_trod : ∀ (n : Nat) (t : TypeId) (ks : List Kd), desc P n t = some ks → ∀ (m : Nat) (cs : List Value) (x : DataW H × List MemPlace), DataW.trod enc P w base spare held m t cs = some x → Holds w ks cs
  | 0, _, _, h, _, _, _, _ => by simp [desc] at h
  | n + 1, t, ks, h, m, cs, x, hx => by
    unfold desc at h
    split at h
    · rename_i hu
      simp only [Option.some.injEq] at h
      subst h
      obtain ⟨b, rfl, _⟩ := DataW.trod_bool hu hx
      refine holds_one (d := .ofP (b = true)) ?_ (by simp [RngK])
      simp only [RdK, D.p_ofP, Value.bool.injEq]
      rw [Bool.eq_iff_iff]
      exact (@decide_eq_true_iff _ (Classical.propDecidable _)).symm
    · rename_i k hu
      simp only [Option.some.injEq] at h
      subst h
      obtain ⟨z, rfl, _, hw⟩ := DataW.trod_int hu hx
      exact holds_one (d := .ofI z) (by simp [RdK, D.i_ofI]) (wf_rng hw)
    · rename_i hu
      simp only [Option.some.injEq] at h
      subst h
      obtain ⟨z, rfl, _, _⟩ := DataW.trod_string hu hx
      exact holds_one (d := .ofS z) (by simp [RdK, D.ofS, D.s]) (by simp [RngK])
    · rename_i e hu
      split at h
      · rename_i k ks' hd
        split at h
        · rename_i hb
          have hb : P.cellsOf e = ks'.length + 1 := Nat.eq_of_beq_eq_true hb
          simp only [Option.some.injEq] at h
          subst h
          rcases DataW.trod_slice hu hx with ⟨rfl, _⟩ | ⟨a, len, cap, elems, rest, m', rfl, rfl, _, _, h2, h3, h4, h5, _, _⟩
          · refine holds_one (d := .ofL 0 fun _ _ => .nil) ?_ ?_
            · simp only [RdK, D.n_ofL]
              exact ⟨none, 0, rfl, by omega, by omega, fun r hr => by omega⟩
            · simp only [RngK, D.n_ofL]
              exact fun r hr => by omega
          · have row : ∀ i, i < len → a.block < w.heap.size ∧ ∃ f : Nat → D, RdKs w (fun b => b < w.heap.size) (k :: ks') f (fun c => w.cell? (a.add (i * (ks'.length + 1) + c))) 0 ∧ RngKs (k :: ks') f 0 := by
              intro i hi
              have e1 := h5 i hi
              rw [List.getElem?_eq_getElem (by omega)] at e1
              obtain ⟨cs', c1, c2⟩ := Option.bind_eq_some_iff.1 e1
              obtain ⟨d1, d2, d3⟩ := cells_get c1
              rw [hb] at d1 d2 d3 c1
              obtain ⟨f, g1, g2, g3⟩ := holds_of_trod n e (k :: ks') hd m' cs' _ c2
              refine ⟨by have := d2 (by omega); rwa [add_block] at this, f, rdKs_ext2 _ f f _ _ 0 0 (fun _ _ => rfl) (fun j hj => ?_) g2, g3⟩
              simp only [Nat.zero_add]
              rw [← d3 j (by simpa using hj), addr_add2]
            refine holds_one (d := .ofL len fun i => if h : i < len then Classical.choose (row i h).2 else fun _ => .nil) ?_ ?_
            · simp only [RdK, D.n_ofL, D.row_ofL]
              refine ⟨some a, cap, rfl, h2, h3, fun r hr => ⟨a, rfl, (row r hr).1, ?_⟩⟩
              rw [dif_pos hr]
              exact (Classical.choose_spec (row r hr).2).1
            · simp only [RngK, D.n_ofL, D.row_ofL]
              intro r hr
              rw [dif_pos hr]
              exact (Classical.choose_spec (row r hr).2).2
        · cases h
      · cases h
    · rename_i fs hu
      split at h
      · rename_i ks' hd
        split at h
        · rename_i hb
          have hb := Nat.eq_of_beq_eq_true hb
          simp only [Option.some.injEq] at h
          subst h
          obtain ⟨xs, m', rfl, _, hl, hxs, hf⟩ := DataW.trod_struct hu hx
          have := holds_fields (w := w) (cs := cs) fs.toList 0 ks' hd (by rw [hl, hb]; simp) (fun f hm ks1 hk1 => ?_)
          · simpa using this
          · obtain ⟨i, hi, rfl⟩ := List.mem_iff_getElem.1 hm
            have hi' : i < fs.size := by simpa using hi
            have e1 := hf i fs[i] (by simp [hi'])
            rw [List.getElem?_eq_getElem (by omega)] at e1
            have e2 : fs.toList[i] = fs[i] := by simp
            rw [e2] at hk1 ⊢
            exact holds_of_trod n _ ks1 hk1 m' _ _ e1
        · cases h
      · cases h
    · rename_i m0 e hu
      split at h
      · rename_i ks' hd
        split at h
        · rename_i hb
          simp only [Bool.and_eq_true, Nat.beq_eq] at hb
          simp only [Option.some.injEq] at h
          subst h
          cases m with
          | zero => simp [DataW.trod] at hx
          | succ m' =>
            obtain ⟨hl, hi⟩ := trod_array hu hx
            refine holds_rep m0 (by rw [hl, hb.2]) fun i h => ?_
            obtain ⟨y, hy⟩ := hi i h
            rw [hb.1] at hy
            exact holds_of_trod n e ks' hd m' _ y hy
        · cases h
      · cases h
    · cases h

def isAgg (P : Program) (t : TypeId) : Bool := match P.underlying t with
  | some (.struct _) => true
  | some (.array _ _) => true
  | _ => false

def descAll (P : Program) (n : Nat) : List TypeId → Option (List (Bool × List Kd))
  | [] => some []
  | t :: r => match desc P n t, descAll P n r with
    | some ks, some l => some ((isAgg P t, ks) :: l)
    | _, _ => none

/-- Numbers of arguments are within their kinds. -/
def RngAll : List (Bool × List Kd) → List (List D) → Prop
  | (_, ks) :: r, d :: ds => RngKs ks (fun c => d.getD c .nil) 0 ∧ RngAll r ds
  | _, _ => True

def trueRes (_ : List (List D)) (_ _ : Nat) : D := .ofP True

theorem shape_of {r : Reach} {n : Nat} {t : TypeId} {ks : List Kd} {v : Value} (hd : desc P n t = some ks) (h : Value.okWide P w r base t v) :
    (isAgg P t = true → v = .agg (v.cells.toList).toArray) ∧ (isAgg P t = false → v.cells.toList = [v]) := by
  cases n with
  | zero => simp [desc] at hd
  | succ n =>
    unfold desc at hd
    unfold isAgg
    split at hd
    · rename_i hu
      obtain ⟨b, rfl⟩ := okWide_bool hu h
      rw [hu]
      exact ⟨fun h => (by cases h), fun _ => rfl⟩
    · rename_i k hu
      obtain ⟨z, rfl⟩ := okWide_int hu h
      rw [hu]
      exact ⟨fun h => (by cases h), fun _ => rfl⟩
    · rename_i hu
      obtain ⟨z, rfl⟩ := okWide_string hu h
      rw [hu]
      exact ⟨fun h => (by cases h), fun _ => rfl⟩
    · rename_i e hu
      obtain ⟨a, l, c, rfl⟩ := okWide_slice hu h
      rw [hu]
      exact ⟨fun h => (by cases h), fun _ => rfl⟩
    · rename_i fs hu
      obtain ⟨cs, rfl, _⟩ := okWide_struct hu h
      rw [hu]
      exact ⟨fun _ => by simp [Value.cells], fun h => by cases h⟩
    · rename_i m e hu
      have : ∃ cs, v = .agg cs := by
        unfold Value.okWide at h
        rw [hu] at h
        obtain ⟨cs, hc, _⟩ := h
        exact ⟨cs, hc⟩
      obtain ⟨cs, rfl⟩ := this
      rw [hu]
      exact ⟨fun _ => by simp [Value.cells], fun h => by cases h⟩
    · cases hd

theorem args_read {r : Reach} {n : Nat} : ∀ (ts : List TypeId) (params : List (Bool × List Kd)) (vs : List Value) (ds : List (DataW H)) (ps : List MemPlace), descAll P n ts = some params →
    (∀ (j : Nat) t v, ts[j]? = some t → vs[j]? = some v → Value.okWide P w r base t v) → DataW.TrodAll enc P w 0 spare held ts vs ds ps →
    ∃ dss, ArgsRd w (fun b => b < w.heap.size) params dss vs ∧ RngAll params dss
  | [], params, vs, ds, ps, hd, _, h => by
    simp only [descAll, Option.some.injEq] at hd
    subst hd
    obtain ⟨rfl, _, _⟩ := trodAll_nil h
    exact ⟨[], trivial, trivial⟩
  | t :: ts, params, vs, ds, ps, hd, hok, h => by
    unfold descAll at hd
    split at hd
    · rename_i ks l hks hl
      simp only [Option.some.injEq] at hd
      subst hd
      cases vs with
      | nil => simp [DataW.TrodAll] at h
      | cons v vs =>
        cases ds with
        | nil => simp [DataW.TrodAll] at h
        | cons d ds =>
          obtain ⟨p, q, ⟨m, hm⟩, h2, _⟩ := h
          obtain ⟨f, g1, g2, g3⟩ := holds_of_trod n t ks hks m _ _ hm
          obtain ⟨dss, i1, i2⟩ := args_read ts l vs ds q hl (fun j t' v' ht hv => hok (j + 1) t' v' (by simpa using ht) (by simpa using hv)) h2
          obtain ⟨s1, s2⟩ := shape_of hks (hok 0 t v (by simp) (by simp))
          have e : ∀ j, j < ks.length → f (0 + j) = (((List.range ks.length).map f).getD (0 + j) .nil) := fun j hj => by simp [List.getD_eq_getElem?_getD, hj]
          refine ⟨(List.range ks.length).map f :: dss, ⟨by simp, ⟨v.cells.toList, s1, s2, g1, rdKs_ext2 ks f _ _ _ 0 0 e (fun _ _ => rfl) g2⟩, i1⟩, rngKs_ext ks f _ 0 0 e g3, i2⟩
    · cases hd

theorem Kept_same {W W' : World} (h : CX.Kept W W') {p : MemPlace} (hp : p.block < W.heap.size) : W.sameAt W' p := by
  cases p with
  | cell b off =>
    simp only [World.sameAt, World.cell?]
    rw [h.2.2.2.2 b hp]
  | map b => exact h.2.2.2.2 b hp

theorem args_stay (hl : laidOutB P = true) {W W' : World} {sp : Nat → Bool} : ∀ {ts : List TypeId} {vs : List Value} {ds : List (DataW H)} {ps : List MemPlace}, (ts.all fun t => P.readableRec t && decide (t < P.types.size)) = true →
    DataW.TrodAll enc P W base (fun _ => true) true ts vs ds ps → (∀ p ∈ ps, W.sameAt W' p) → (∀ p ∈ ps, sp p.block = true) → DataW.TrodAll enc P W' base sp true ts vs ds ps
  | [], vs, ds, ps, _, h, _, _ => by
    obtain ⟨rfl, rfl, rfl⟩ := trodAll_nil h
    exact trodAll_mk0
  | t :: ts, [], ds, ps, _, h, _, _ => by simp [DataW.TrodAll] at h
  | t :: ts, v :: vs, [], ps, _, h, _, _ => by simp [DataW.TrodAll] at h
  | t :: ts, v :: vs, d :: ds, ps, hr, h, h1, h2 => by
    obtain ⟨p, q, ha, hb, rfl⟩ := h
    simp only [List.all_cons, Bool.and_eq_true, decide_eq_true_eq] at hr
    exact ⟨p, q, Go.WideElems.Trod_stays hl hr.1.1 hr.1.2 ha (fun x hx => h1 x (by simp [hx])) (fun x hx => h2 x (by simp [hx])),
      args_stay hl (by simpa using hr.2) hb (fun x hx => h1 x (by simp [hx])) (fun x hx => h2 x (by simp [hx])), rfl⟩

/-- **From the law of a statement's function to what the statement asks.** -/
theorem said {fnum : FuncId} {f : Func} {s : ChangeSpec} {fresh handsOn again : Bool} {n : Nat} {params : List (Bool × List Kd)} {tb : TypeId}
    (hpure : PureFn P ⟨params, [(false, [.bool])]⟩ fnum (RngAll params) trueRes) (hd : descAll P n f.params.toList = some params) (hl : laidOutB P = true)
    (hr : (f.params.toList.all fun t => P.readableRec t && decide (t < P.types.size)) = true) (hres : f.resultTypes = #[tb]) (hb : P.underlying tb = some .bool)
    (hs : ∀ ds : List (DataW H), ds.length = f.params.toList.length → s.fn H ds = ⟨[.lit (.bool true)], ds, []⟩) (hv : s.vars = []) {apart : Bool} (W : World) (base : Nat) (args : Array Value) (ds gs : List (DataW H)) (before : List MemPlace)
    (hval : ∀ (j : Nat) t v, f.params[j]? = some t → args[j]? = some v → Value.okWide P W .any base t v) (hW : DataW.Whole enc P f.params.toList s.vars apart W args.toList ds gs before) :
    Calls P fnum args W fun e W' => ∃ v, e = .returned v ∧ s.post enc P f apart fresh handsOn again W args v W' := by
  have hW' := hW
  obtain ⟨p, q, hA, hV, rfl, _, _⟩ := hW
  rw [hv] at hV
  obtain ⟨rfl, rfl⟩ := trodVars_none hV
  obtain ⟨dss, h1, h2⟩ := args_read (r := .any) (base := base) f.params.toList params args.toList ds p hd (fun j t v ht hv => hval j t v (by simpa using ht) (by simpa using hv)) hA
  have hlen := (trodAll_length hA).2
  have hfn : s.fn H (ds ++ []) = ⟨[.lit (.bool true)], ds, []⟩ := by rw [List.append_nil]; exact hs ds hlen
  have hcall := hpure W (fun b => b < W.heap.size) args.toList dss (fun _ h => h) h1 h2
  rw [show args.toList.toArray = args by simp] at hcall
  refine hcall.mono fun e W' h => ?_
  obtain ⟨us, R', rfl, hg, hR1, hR2, hrd⟩ := h
  have hu : us = [.bool true] := by
    cases us with
    | nil => simp [ResRd] at hrd
    | cons u us =>
      cases us with
      | cons _ _ => simp [ResRd] at hrd
      | nil =>
        obtain ⟨⟨cs, _, c2, c3, c4⟩, _⟩ := hrd
        have c2 := c2 rfl
        subst c2
        simp only [RdKs, RdK, and_true] at c4
        obtain ⟨z, hz, hz'⟩ := c4
        simp only [List.getElem?_cons_zero, Option.some.injEq] at hz
        subst hz
        rw [hz', @decide_eq_true _ (Classical.propDecidable _) (show (trueRes dss 0 0).p from trivial)]
  subst hu
  have hk : CX.Kept W W' := ⟨hg.os, hg.tape, hg.output, hg.size, hg.keep⟩
  have hlt := hW'.lt
  simp only [List.append_nil] at hW' hlt
  refine ⟨_, rfl, CX.post_kept (pa := p) (pv := []) hW' (fun b sp hd => ?_) (fun sp hsp => ?_) (fun sp _ => ?_) (by simp) hk (ok_one hres rfl (okWide_bool_mk hb _))⟩
  · rw [hfn, hres]
    exact trodAll_mk1 (shut_bool hb _)
  · rw [hfn]
    exact args_stay hl hr hA (fun x hx => Kept_same hk (hlt x hx)) (fun x hx => hsp x hx)
  · rw [hfn, hv]
    rfl
end
end SX

/-
  CodeRound: the statement's own function returns true.
-/
namespace SX
open Go Go.Proofs
set_option maxRecDepth 100000

def rdPs : List (Bool × List Kd) := [(false, [.int .u16]), (false, [.int .u8]), (false, [.int .u16]), (false, [.int .u8]), (false, [.int .u16]), (false, [.int .u16])]

/-- How many spikes are taken away. -/
def lostD (l : Int) (L : Nat) : Int := l.tmod ((L : Int) + 1)
theorem lostD_eq (l : Int) (L : Nat) : l.tmod ((L : Int) + 1) = lostD l L := rfl
theorem lostD_rng {l : Int} (h : 0 ≤ l) (L : Nat) : 0 ≤ lostD l L ∧ lostD l L ≤ L := by
  unfold lostD
  have h1 := Int.tmod_nonneg ((L : Int) + 1) h
  have h2 := Int.tmod_lt_of_pos l (b := (L : Int) + 1) (by omega)
  omega

theorem tmod_rng {a b : Int} (h : 0 ≤ a) (hb : 0 < b) : 0 ≤ a.tmod b ∧ a.tmod b < b := ⟨Int.tmod_nonneg b h, Int.tmod_lt_of_pos a hb⟩

def lostC (L : Nat) (d : Int) : Int := (L : Int) - d
def lostE (L : Nat) (e : Int) : Int := (L : Int) + e
def moreD (i : Nat) : Int := ((([[D.ofI 0], [D.ofI 1], [D.ofI 5]] : List (List D)).getD i []).getD 0 D.nil).i
theorem moreD_eq (i : Nat) : ((([[D.ofI 0], [D.ofI 1], [D.ofI 5]] : List (List D)).getD i []).getD 0 D.nil).i = moreD i := rfl
theorem moreD_rng {i : Nat} (h : i < 3) : 0 ≤ moreD i ∧ moreD i ≤ 5 := by
  obtain rfl | rfl | rfl : i = 0 ∨ i = 1 ∨ i = 2 := by omega
  all_goals simp [moreD, D.i_ofI]

/-- What Unrate says of a rate of which some spikes are lost. -/
theorem rd_un {x m n d e lo hi : Int} {L : Nat} (hok : rateOk x m n) (hm : m ≤ 256) (hL : rateN x m n = L) (hd : 0 ≤ d ∧ d.toNat ≤ L) (he : 0 ≤ e ∧ e ≤ 5) (hlo : unLo (lostC L d) m n = lo) (hhi : min m (unHi (lostC L d) m n (d + e)) = hi) :
    unR ((L : Int) - d) m n (d + e) 0 = .ofI lo ∧ unR ((L : Int) - d) m n (d + e) 1 = .ofI hi ∧ unR ((L : Int) - d) m n (d + e) 2 = .ofI 0 ∧ 0 ≤ lo ∧ lo ≤ x ∧ x ≤ hi ∧ hi ≤ m ∧
    ∀ y, 0 ≤ y → y ≤ m → 0 ≤ n * y ∧ n * y ≤ 4194304 ∧ 0 ≤ (n * y).tdiv m ∧ (n * y).tdiv m ≤ 4096 ∧ (((L : Int) - d ≤ (n * y).tdiv m ∧ (n * y).tdiv m ≤ (L : Int) + e) ↔ (lo ≤ y ∧ y ≤ hi)) := by
  obtain ⟨l1, l2, l3, l4, _⟩ := rate_law hok
  rw [hL] at l3 l4
  have hok' := hok
  obtain ⟨⟨a1, a2⟩, ⟨a3, a4⟩, a5, a6⟩ := hok'
  have hLn : (L : Int) ≤ n := by
    rw [← l3, Int.tdiv_eq_ediv_of_nonneg l1]
    have h1 : n * x ≤ n * m := Int.mul_le_mul_of_nonneg_left a6 (by omega)
    have : n * x / m < n + 1 := by rw [Int.ediv_lt_iff_lt_mul (by omega), Int.add_mul, Int.one_mul]; omega
    omega
  have ok : unOk (lostC L d) m n (d + e) := ⟨by omega, by omega, by unfold lostC; omega, by omega⟩
  have key := fun y h0 h1 => un_law2 ok y h0 h1
  obtain ⟨_, _, _, _, _, _, _, z1, _, z2, _⟩ := un_law ok
  obtain ⟨_, _, _, _, kx⟩ := key x a5 a6
  rw [l3, hlo] at kx
  have k1 := kx.1 (by unfold lostC; omega)
  have hne : unLo (lostC L d) m n ≤ min m (unHi (lostC L d) m n (d + e)) := by rw [hlo]; omega
  refine ⟨?_, ?_, ?_, by omega, by omega, by omega, by omega, fun y h0 h1 => ?_⟩
  · rw [← hlo]; exact congrArg D.ofI (if_pos ⟨ok, hne⟩)
  · rw [← hhi]; exact congrArg D.ofI (if_pos ⟨ok, hne⟩)
  · exact congrArg D.ofI ((if_pos ok).trans (if_pos hne))
  · obtain ⟨b1, b2, b3, b4, b5⟩ := key y h0 h1
    refine ⟨b1, b2, b3, b4, ?_⟩
    rw [hlo] at b5
    have e1 : lostC L d = (L : Int) - d := rfl
    omega

def nearD (lo up : Int) (r _ : Nat) : D := .ofI (match r with | 0 => lo - 1 | 1 => lo | 2 => up | _ => up + 1)
theorem nearD_eq (lo up : Int) : SlEq ⟨[.int .i64], 4, nearD lo up⟩ ⟨[.int .i64], 4, fun r c => (([[D.ofI (lo - 1)], [D.ofI lo], [D.ofI up], [D.ofI (up + 1)]] : List (List D)).getD r []).getD c .nil⟩ := by
  refine ⟨rfl, fun r hr => ?_⟩
  obtain rfl | rfl | rfl | rfl : r = 0 ∨ r = 1 ∨ r = 2 ∨ r = 3 := by simp only at hr; omega
  all_goals exact ⟨rfl, trivial⟩

theorem toNat_pred (j : Nat) : ((j : Int) - 1).toNat = j - 1 := by omega
def cntN (Fa Fb j : Nat) : Nat := min j Fb - min j Fa
def FN (m x t : Int) : Nat := (t * x / m).toNat

theorem rd_tick {x m n : Int} {L j : Nat} (hok : rateOk x m n) (hL : rateN x m n = L) (hj : j < L) : 0 ≤ (tick x m j 0).i ∧ (tick x m j 0).i < n ∧ (0 < j → (tick x m (j - 1) 0).i < (tick x m j 0).i) ∧
    ∀ t : Int, 0 ≤ t → ((tick x m j 0).i < t ↔ j < FN m x t) := by
  obtain ⟨l1, l2, l3, l4, l5⟩ := rate_law hok
  rw [hL] at l3 l4 l5
  have hx := (l5 j (by omega)).1
  obtain ⟨⟨h1, h2⟩, ⟨h3, h4⟩, h5, h6⟩ := hok
  have e : ∀ t : Int, 0 ≤ t → ((tick x m j 0).i < t ↔ j < FN m x t) := fun t ht => by
    have h0 : 0 ≤ t * x / m := Int.ediv_nonneg (Int.mul_nonneg ht h5) (by omega)
    have := Rates.tick_lt_iff m x j t h1 hx
    simp only [tick, D.i_ofI, FN]
    omega
  have hFn : FN m x n = L := hL
  refine ⟨?_, (e n (by omega)).2 (by omega), fun h0 => ?_, e⟩
  · have := Rates.tick_lt m x n ((j : Int) + 1) h1 hx (by omega) (by rw [← Int.tdiv_eq_ediv_of_nonneg l1, l3]; omega)
    simp only [tick, D.i_ofI]
    omega
  · have := Rates.tick_mono m x ((j : Int) - 1) h1 hx h6
    simp only [tick, D.i_ofI]
    rw [show (((j - 1 : Nat) : Int)) = (j : Int) - 1 by omega]
    rwa [show (j : Int) - 1 + 1 + 1 = (j : Int) + 1 by omega] at this

theorem rd_sum {x m n a b : Int} {L : Nat} (hok : rateOk x m n) (hL : rateN x m n = L) (ha : 0 ≤ a) (hb : 0 ≤ b) (hab : a + b ≤ n) : FN m x a ≤ FN m x (a + b) ∧ FN m x (a + b) ≤ L ∧ 0 ≤ b * x ∧ b * x ≤ 4194304 ∧ 0 ≤ (b * x).tdiv m ∧ (b * x).tdiv m ≤ 4096 ∧
    ((FN m x (a + b) : Int) - FN m x a = (b * x).tdiv m ∨ (FN m x (a + b) : Int) - FN m x a = (b * x).tdiv m + 1) := by
  obtain ⟨⟨h1, h2⟩, ⟨h3, h4⟩, h5, h6⟩ := hok
  have up : ∀ t : Int, 0 ≤ t → t ≤ n → 0 ≤ t * x ∧ t * x ≤ 4194304 ∧ 0 ≤ t * x / m ∧ t * x / m ≤ 4096 := fun t h0 h => by
    have a1 : 0 ≤ t * x := Int.mul_nonneg h0 h5
    have a2 : t * x ≤ 4096 * 1024 := Int.mul_le_mul (by omega) (by omega) h5 (by omega)
    have a3 : t * x ≤ t * m := Int.mul_le_mul_of_nonneg_left h6 h0
    have a4 : t * x / m < t + 1 := by rw [Int.ediv_lt_iff_lt_mul (by omega), Int.add_mul, Int.one_mul]; omega
    exact ⟨a1, by omega, Int.ediv_nonneg a1 (by omega), by omega⟩
  obtain ⟨b1, b2, b3, b4⟩ := up b hb (by omega)
  have mono : (a + b) * x / m ≤ n * x / m := by
    have : (a + b) * x ≤ n * x := Int.mul_le_mul_of_nonneg_right hab h5
    exact Int.ediv_le_ediv (by omega) this
  obtain ⟨p1, p2⟩ := Rates.part m x a b h1
  obtain ⟨_, _, c3, _⟩ := up a ha (by omega)
  obtain ⟨_, _, d3, _⟩ := up (a + b) (by omega) hab
  rw [Int.tdiv_eq_ediv_of_nonneg b1]
  have hL' : (n * x / m).toNat = L := hL
  unfold FN
  exact ⟨by omega, by omega, b1, b2, b3, b4, by omega⟩

set_option maxHeartbeats 4000000 in
theorem codeRound_pure {A pre fn} (hE : EnvOk ⟨A, tabF, sigL sg2, pre, fn, inlL inlH, cmpL cmpT⟩ Tryz.prog) (H : Has pre fn cs2) : PureFn Tryz.prog ⟨rdPs, [(false, [.bool])]⟩ 8
    (RngAll rdPs) trueRes := by
  have hf := Tryz.func8
  have h13 := H c13 (by simp [cs2])
  have h16 := H c16 (by simp [cs2])
  have h18 := H c18 (by simp [cs2])
  simp only [c13, c16, c18] at h13 h16 h18
  generalize Tryz.prog = P at *
  refine PureFn.of_vc hE 0 hf ?_
  intro v most ticks lost frm k hrng
  have hA := hE.A
  simp only [] at hA
  simp only [rdPs, RngAll, RngKs, RngK, IntKind.min, IntKind.max, IntKind.bits, IntKind.signed, if_true, Bool.false_eq_true, if_false, List.getD_cons_zero, and_true] at hrng
  obtain ⟨r1, r2, r3, r4, r5, r6⟩ := hrng
  obtain ⟨m, hm⟩ : ∃ m, 1 + most.i = m := ⟨_, rfl⟩
  obtain ⟨n, hn⟩ : ∃ n, 1 + ticks.i.tmod 512 = n := ⟨_, rfl⟩
  obtain ⟨x, hx⟩ : ∃ x, v.i.tmod (m + 1) = x := ⟨_, rfl⟩
  have q1 := tmod_rng (a := ticks.i) (b := 512) (by omega) (by omega)
  have q2 := tmod_rng (a := v.i) (b := m + 1) (by omega) (by omega)
  have hok : rateOk x m n := ⟨by omega, by omega, by omega, by omega⟩
  have hmn : 1 ≤ m ∧ m ≤ 256 ∧ 1 ≤ n ∧ n ≤ 512 ∧ 0 ≤ x ∧ x ≤ m := by omega
  clear q1 q2
  obtain ⟨L, hL⟩ : ∃ L, rateN x m n = L := ⟨_, rfl⟩
  have R0 : rateR x m n 0 = .ofL L (tick x m) := by rw [← hL]; exact if_pos hok
  have R1 : rateR x m n 1 = .ofI 0 := if_pos hok
  obtain ⟨g, hg⟩ : ∃ g, tick x m = g := ⟨_, rfl⟩
  rw [hg] at R0
  generalize hR : trueRes = R
  have fin : ∀ p : Prop, p → DEq .bool (A.ofP p) (R [[v], [most], [ticks], [lost], [frm], [k]] 0 0) := fun p hp => ⟨by
    subst hR hA
    simpa [dEq, trueRes, Ar.std, D.ofP, D.p] using hp⟩
  have p13 : pre 13 = fun _ => True := h13.1
  have p16 : pre 16 = fun _ => True := h16.1
  have p18 : pre 18 = fun _ => True := h18.1
  have f13 : fn 13 = rateRes := h13.2
  have f16 : fn 16 = unRes := h16.2
  have f18 : fn 18 = worksRes := h18.2
  clear h13 h16 h18
  cbv
  repeat' (first | (refine Br.mk (fun _ => ?_) (fun _ => ?_) <;> cbv) | refine And.intro ?_ ?_ | exact True.intro)
  all_goals (try first | (rw [p13]; exact True.intro) | (rw [p16]; exact True.intro) | (rw [p18]; exact True.intro))
  all_goals (try (
    (try refine fin _ ?_)
    (((try clear hK2); (try clear hK); (try clear hE); (try clear fin); subst hA; simp only [Ar.std, IntKind.min, IntKind.max, IntKind.bits, IntKind.signed, if_true, Bool.false_eq_true, if_false] at *); all_goals (try simp only [f13, f16, rateRes, unRes, arg, List.getD_cons_zero, List.getD_cons_succ, D.i_ofI] at *); all_goals (try simp only [hm, hn, hx] at *); all_goals (try simp only [R0, R1, D.n_ofL, D.row_ofL, D.i_ofI, not_true_eq_false] at *); all_goals (obtain ⟨l1, l2, l3, l4, l5⟩ := rate_law hok); all_goals (simp only [hL] at *))
    all_goals omega))
  obtain ⟨d, hd⟩ : ∃ d, lostD lost.i L = d := ⟨_, rfl⟩
  refine loopK hE 0 0 [0, 1, 2, 3, 4, 5, 12, 16, 69, 70] (fun (i : Nat) _ => ⟨[(71, .int .i64 (A.nat i)), (13, .int .i64 m), (14, .int .i64 n), (15, .int .i64 x), (18, .int .i64 d)], [], [(0, ⟨[.int .i64], L, g⟩)]⟩) (fun i => i ≤ 3) (fun i => 3 - i) 0 (by omega) ?_ ?_
  · cbv
    repeat' (first | (refine Br.mk (fun _ => ?_) (fun _ => ?_) <;> cbv) | refine And.intro ?_ ?_ | exact True.intro)
    all_goals first | exact Iff.rfl | exact SlEq.refl _ | rfl | (subst hA; rfl) | skip
    · subst hA; exact hm.symm
    · subst hA; exact hn.symm
    · (((try clear hK2); (try clear hK); (try clear hE); (try clear fin); subst hA; simp only [Ar.std, IntKind.min, IntKind.max, IntKind.bits, IntKind.signed, if_true, Bool.false_eq_true, if_false] at *); all_goals (try simp only [f13, f16, rateRes, unRes, arg, List.getD_cons_zero, List.getD_cons_succ, D.i_ofI] at *); all_goals (try simp only [hm, hn, hx] at *); all_goals (try simp only [R0, R1, D.n_ofL, D.row_ofL, D.i_ofI, not_true_eq_false] at *); all_goals (obtain ⟨l1, l2, l3, l4, l5⟩ := rate_law hok); all_goals (simp only [hL] at *))
    · (((try clear hK2); (try clear hK); (try clear hE); (try clear fin); subst hA; simp only [Ar.std, IntKind.min, IntKind.max, IntKind.bits, IntKind.signed, if_true, Bool.false_eq_true, if_false] at *); all_goals (try simp only [f13, f16, rateRes, unRes, arg, List.getD_cons_zero, List.getD_cons_succ, D.i_ofI] at *); all_goals (try simp only [hm, hn, hx] at *); all_goals (try simp only [R0, R1, D.n_ofL, D.row_ofL, D.i_ofI, not_true_eq_false] at *); all_goals (obtain ⟨l1, l2, l3, l4, l5⟩ := rate_law hok); all_goals (simp only [hL] at *))
      exact hd.symm
    · (((try clear hK2); (try clear hK); (try clear hE); (try clear fin); subst hA; simp only [Ar.std, IntKind.min, IntKind.max, IntKind.bits, IntKind.signed, if_true, Bool.false_eq_true, if_false] at *); all_goals (try simp only [f13, f16, rateRes, unRes, arg, List.getD_cons_zero, List.getD_cons_succ, D.i_ofI] at *); all_goals (try simp only [hm, hn, hx] at *); all_goals (try simp only [R0, R1, D.n_ofL, D.row_ofL, D.i_ofI, not_true_eq_false] at *); all_goals (obtain ⟨l1, l2, l3, l4, l5⟩ := rate_law hok); all_goals (simp only [hL] at *))
      exact SlEq.refl _
  · rename_i h1 h2
    clear h1 h2
    have hdr : 0 ≤ d ∧ d.toNat ≤ L := by
      have := lostD_rng r4.1 L
      rw [hd] at this
      omega
    intro i hi K hK
    obtain ⟨e, he⟩ : ∃ e, moreD i = e := ⟨_, rfl⟩
    obtain ⟨lo, hlo⟩ : ∃ lo, unLo (lostC L d) m n = lo := ⟨_, rfl⟩
    obtain ⟨up, hhi⟩ : ∃ up, min m (unHi (lostC L d) m n (d + e)) = up := ⟨_, rfl⟩
    obtain ⟨tb, htb⟩ : ∃ tb, nearD lo up = tb := ⟨_, rfl⟩
    cbv
    refine Br.mk (fun h0 => ?_) (fun h0 => ?_) <;> cbv
    · have hi3 : i < 3 := by (subst hA; simp only [Ar.std] at h0 ⊢); omega
      have her := moreD_rng hi3
      rw [he] at her
      repeat' (first | (refine Br.mk (fun _ => ?_) (fun _ => ?_) <;> cbv) | refine And.intro ?_ ?_ | exact True.intro)
      all_goals (try first | (rw [p13]; exact True.intro) | (rw [p16]; exact True.intro) | (rw [p18]; exact True.intro))
      all_goals (try (
        (try refine fin _ ?_)
        (((try clear hK2); (try clear hK); (try clear hE); (try clear fin); subst hA; simp only [Ar.std, IntKind.min, IntKind.max, IntKind.bits, IntKind.signed, if_true, Bool.false_eq_true, if_false] at *); all_goals (try simp only [f16, unRes, arg, List.getD_cons_zero, List.getD_cons_succ, D.i_ofI, Int.toNat_natCast, moreD_eq] at *); all_goals (try simp only [he] at *); all_goals (obtain ⟨u0, u1, u2, u3, u4, u5, u6, u7⟩ := rd_un hok hmn.2.1 hL hdr her hlo hhi); all_goals (have l0 := rate_law hok); all_goals (simp only [hL] at l0); all_goals (try simp only [u0, u1, u2, D.i_ofI, not_true_eq_false] at *))
        all_goals omega))
      rename_i h1 h2 h3 h4 h5
      clear h1 h2 h3 h4 h5
      refine loopK hE 0 0 [0, 1, 2, 3, 4, 5, 12, 13, 14, 15, 16, 18, 69, 70, 71, 116, 117] (fun (j : Nat) _ => ⟨[(118, .int .i64 (A.nat j)), (20, .int .i64 e), (21, .int .i64 lo), (22, .int .i64 up)], [(2, .arr true ⟨[.int .i64], 4, tb⟩)], []⟩) (fun j => j ≤ 4) (fun j => 4 - j) 0 (by omega) ?_ ?_
      · cbv
        repeat' (first | (refine Br.mk (fun _ => ?_) (fun _ => ?_) <;> cbv) | refine And.intro ?_ ?_ | exact True.intro)
        all_goals first | exact Iff.rfl | exact SlEq.refl _ | rfl | (subst hA; rfl) | skip
        · (((try clear hK2); (try clear hK); (try clear hE); (try clear fin); subst hA; simp only [Ar.std, IntKind.min, IntKind.max, IntKind.bits, IntKind.signed, if_true, Bool.false_eq_true, if_false] at *); all_goals (try simp only [f16, unRes, arg, List.getD_cons_zero, List.getD_cons_succ, D.i_ofI, Int.toNat_natCast, moreD_eq] at *); all_goals (try simp only [he] at *); all_goals (obtain ⟨u0, u1, u2, u3, u4, u5, u6, u7⟩ := rd_un hok hmn.2.1 hL hdr her hlo hhi); all_goals (have l0 := rate_law hok); all_goals (simp only [hL] at l0); all_goals (try simp only [u0, u1, u2, D.i_ofI, not_true_eq_false] at *))
        · (((try clear hK2); (try clear hK); (try clear hE); (try clear fin); subst hA; simp only [Ar.std, IntKind.min, IntKind.max, IntKind.bits, IntKind.signed, if_true, Bool.false_eq_true, if_false] at *); all_goals (try simp only [f16, unRes, arg, List.getD_cons_zero, List.getD_cons_succ, D.i_ofI, Int.toNat_natCast, moreD_eq] at *); all_goals (try simp only [he] at *); all_goals (obtain ⟨u0, u1, u2, u3, u4, u5, u6, u7⟩ := rd_un hok hmn.2.1 hL hdr her hlo hhi); all_goals (have l0 := rate_law hok); all_goals (simp only [hL] at l0); all_goals (try simp only [u0, u1, u2, D.i_ofI, not_true_eq_false] at *))
        · (((try clear hK2); (try clear hK); (try clear hE); (try clear fin); subst hA; simp only [Ar.std, IntKind.min, IntKind.max, IntKind.bits, IntKind.signed, if_true, Bool.false_eq_true, if_false] at *); all_goals (try simp only [f16, unRes, arg, List.getD_cons_zero, List.getD_cons_succ, D.i_ofI, Int.toNat_natCast, moreD_eq] at *); all_goals (try simp only [he] at *); all_goals (obtain ⟨u0, u1, u2, u3, u4, u5, u6, u7⟩ := rd_un hok hmn.2.1 hL hdr her hlo hhi); all_goals (have l0 := rate_law hok); all_goals (simp only [hL] at l0); all_goals (try simp only [u0, u1, u2, D.i_ofI, not_true_eq_false] at *))
        · (((try clear hK2); (try clear hK); (try clear hE); (try clear fin); subst hA; simp only [Ar.std, IntKind.min, IntKind.max, IntKind.bits, IntKind.signed, if_true, Bool.false_eq_true, if_false] at *); all_goals (try simp only [f16, unRes, arg, List.getD_cons_zero, List.getD_cons_succ, D.i_ofI, Int.toNat_natCast, moreD_eq] at *); all_goals (try simp only [he] at *); all_goals (obtain ⟨u0, u1, u2, u3, u4, u5, u6, u7⟩ := rd_un hok hmn.2.1 hL hdr her hlo hhi); all_goals (have l0 := rate_law hok); all_goals (simp only [hL] at l0); all_goals (try simp only [u0, u1, u2, D.i_ofI, not_true_eq_false] at *))
          subst htb
          exact nearD_eq lo up
      · intro j hj K2 hK2
        cbv
        repeat' (first | (refine Br.mk (fun _ => ?_) (fun _ => ?_) <;> cbv) | refine And.intro ?_ ?_ | exact True.intro)
        all_goals (try (
          (try refine fin _ ?_)
          obtain ⟨y, hy⟩ : ∃ y, (tb j 0).i = y := ⟨_, rfl⟩
          (((try clear hK2); (try clear hK); (try clear hE); (try clear fin); subst hA; simp only [Ar.std, IntKind.min, IntKind.max, IntKind.bits, IntKind.signed, if_true, Bool.false_eq_true, if_false] at *); all_goals (try simp only [f16, unRes, arg, List.getD_cons_zero, List.getD_cons_succ, D.i_ofI, Int.toNat_natCast, moreD_eq] at *); all_goals (try simp only [he] at *); all_goals (obtain ⟨u0, u1, u2, u3, u4, u5, u6, u7⟩ := rd_un hok hmn.2.1 hL hdr her hlo hhi); all_goals (have l0 := rate_law hok); all_goals (simp only [hL] at l0); all_goals (try simp only [u0, u1, u2, D.i_ofI, not_true_eq_false] at *))
          all_goals (try simp only [hy] at *)
          all_goals (try have u8 := u7 y (by omega) (by omega))
          all_goals (try simp only [iff_false, false_iff, iff_true, true_iff, Classical.not_not] at *)
          all_goals omega))
        all_goals (try (
          refine hK2 (j + 1) _ (by ((try clear hK2); (try clear hK); (try clear hE); (try clear fin); subst hA; simp only [Ar.std, IntKind.min, IntKind.max, IntKind.bits, IntKind.signed, if_true, Bool.false_eq_true, if_false] at *); omega) (by ((try clear hK2); (try clear hK); (try clear hE); (try clear fin); subst hA; simp only [Ar.std, IntKind.min, IntKind.max, IntKind.bits, IntKind.signed, if_true, Bool.false_eq_true, if_false] at *); omega) ?_
          cbv
          repeat' (first | (refine Br.mk (fun _ => ?_) (fun _ => ?_) <;> cbv) | refine And.intro ?_ ?_ | exact True.intro)
          all_goals first | exact Iff.rfl | exact SlEq.refl _ | rfl | (subst hA; rfl)))
        refine hK (i + 1) _ (by omega) (by omega) ?_
        cbv
        repeat' (first | (refine Br.mk (fun _ => ?_) (fun _ => ?_) <;> cbv) | refine And.intro ?_ ?_ | exact True.intro)
        all_goals first | exact Iff.rfl | exact SlEq.refl _ | rfl | (subst hA; rfl)
    · clear hK
      have q3 := tmod_rng (a := frm.i) (b := n) (by omega) (by omega)
      obtain ⟨a, ha⟩ : ∃ a, frm.i.tmod n = a := ⟨_, rfl⟩
      rw [ha] at q3
      have q4 := tmod_rng (a := k.i) (b := n - a + 1) (by omega) (by omega)
      obtain ⟨b, hb⟩ : ∃ b, k.i.tmod (n - a + 1) = b := ⟨_, rfl⟩
      rw [hb] at q4
      repeat' (first | (refine Br.mk (fun _ => ?_) (fun _ => ?_) <;> cbv) | refine And.intro ?_ ?_ | exact True.intro)
      all_goals (try (
        ((try clear hK2); (try clear hK); (try clear hE); (try clear fin); subst hA; simp only [Ar.std, IntKind.min, IntKind.max, IntKind.bits, IntKind.signed, if_true, Bool.false_eq_true, if_false] at *)
        (try simp only [ha, hb] at *)
        omega))
      obtain ⟨cn, hcn⟩ : ∃ cn, cntN (FN m x a) (FN m x (a + b)) = cn := ⟨_, rfl⟩
      refine loopK hE 0 0 [0, 1, 2, 3, 12, 13, 14, 15, 16, 170, 171] (fun (j : Nat) _ => ⟨[(172, .int .i64 (A.nat j)), (27, .int .i64 a), (28, .int .i64 b), (29, .int .i64 (A.nat (cn j)))], [], []⟩) (fun j => j ≤ L) (fun j => L - j) 0 (Nat.zero_le _) ?_ ?_
      · cbv
        repeat' (first | (refine Br.mk (fun _ => ?_) (fun _ => ?_) <;> cbv) | refine And.intro ?_ ?_ | exact True.intro)
        all_goals first | exact Iff.rfl | exact SlEq.refl _ | rfl | (subst hA; rfl) | skip
        · subst hA; exact ha.symm
        · subst hA
          simp only [Ar.std, ha]
          exact hb.symm
        · subst hA hcn
          simp [Ar.std, cntN]
      · intro j hj K hK
        cbv
        refine Br.mk (fun h1 => ?_) (fun h1 => ?_) <;> cbv
        · have hjL : j < L := by (subst hA; simp only [Ar.std] at h1 ⊢); omega
          repeat' (first | (refine Br.mk (fun _ => ?_) (fun _ => ?_) <;> cbv) | refine And.intro ?_ ?_ | exact True.intro)
          all_goals (try (
            (((try clear hK2); (try clear hK); (try clear hE); (try clear fin); subst hA; simp only [Ar.std, IntKind.min, IntKind.max, IntKind.bits, IntKind.signed, if_true, Bool.false_eq_true, if_false] at *); all_goals (try simp only [Int.toNat_natCast, toNat_pred] at *); all_goals (obtain ⟨t1, t2, t3, t4⟩ := rd_tick hok hL (j := j) (by omega)); all_goals (rw [hg] at t1 t2 t3 t4); all_goals (have l4 := (rate_law hok).2.2.2.1); all_goals (rw [hL] at l4); all_goals (have t5 := t4 a (by omega)); all_goals (have t6 := t4 (a + b) (by omega)); all_goals (obtain ⟨s1, s2, s3, s4, s5, s6, s7⟩ := rd_sum hok hL (a := a) (b := b) (by omega) (by omega) (by omega)))
            all_goals (try (
              have c1 : cn j ≤ L := by rw [← hcn]; unfold cntN; omega))
            all_goals omega))
          all_goals (try (
            refine fin _ ?_
            (((try clear hK2); (try clear hK); (try clear hE); (try clear fin); subst hA; simp only [Ar.std, IntKind.min, IntKind.max, IntKind.bits, IntKind.signed, if_true, Bool.false_eq_true, if_false] at *); all_goals (try simp only [Int.toNat_natCast, toNat_pred] at *); all_goals (obtain ⟨t1, t2, t3, t4⟩ := rd_tick hok hL (j := j) (by omega)); all_goals (rw [hg] at t1 t2 t3 t4); all_goals (have l4 := (rate_law hok).2.2.2.1); all_goals (rw [hL] at l4); all_goals (have t5 := t4 a (by omega)); all_goals (have t6 := t4 (a + b) (by omega)); all_goals (obtain ⟨s1, s2, s3, s4, s5, s6, s7⟩ := rd_sum hok hL (a := a) (b := b) (by omega) (by omega) (by omega)))
            all_goals omega))
          all_goals (try (
            exfalso
            (((try clear hK2); (try clear hK); (try clear hE); (try clear fin); subst hA; simp only [Ar.std, IntKind.min, IntKind.max, IntKind.bits, IntKind.signed, if_true, Bool.false_eq_true, if_false] at *); all_goals (try simp only [Int.toNat_natCast, toNat_pred] at *); all_goals (obtain ⟨t1, t2, t3, t4⟩ := rd_tick hok hL (j := j) (by omega)); all_goals (rw [hg] at t1 t2 t3 t4); all_goals (have l4 := (rate_law hok).2.2.2.1); all_goals (rw [hL] at l4); all_goals (have t5 := t4 a (by omega)); all_goals (have t6 := t4 (a + b) (by omega)); all_goals (obtain ⟨s1, s2, s3, s4, s5, s6, s7⟩ := rd_sum hok hL (a := a) (b := b) (by omega) (by omega) (by omega)))
            all_goals omega))
          all_goals (
            refine hK (j + 1) _ (by omega) (by omega) ?_
            cbv
            repeat' (first | (refine Br.mk (fun _ => ?_) (fun _ => ?_) <;> cbv) | refine And.intro ?_ ?_ | exact True.intro)
            all_goals first | exact Iff.rfl | exact SlEq.refl _ | rfl | (subst hA; rfl) | ((((try clear hK2); (try clear hK); (try clear hE); (try clear fin); subst hA; simp only [Ar.std, IntKind.min, IntKind.max, IntKind.bits, IntKind.signed, if_true, Bool.false_eq_true, if_false] at *); all_goals (try simp only [Int.toNat_natCast, toNat_pred] at *); all_goals (obtain ⟨t1, t2, t3, t4⟩ := rd_tick hok hL (j := j) (by omega)); all_goals (rw [hg] at t1 t2 t3 t4); all_goals (have l4 := (rate_law hok).2.2.2.1); all_goals (rw [hL] at l4); all_goals (have t5 := t4 a (by omega)); all_goals (have t6 := t4 (a + b) (by omega)); all_goals (obtain ⟨s1, s2, s3, s4, s5, s6, s7⟩ := rd_sum hok hL (a := a) (b := b) (by omega) (by omega) (by omega))); rw [← hcn]; unfold cntN; omega))
        · have e : j = L := by (subst hA; simp only [Ar.std] at h1 ⊢); omega
          subst e
          repeat' (first | (refine Br.mk (fun _ => ?_) (fun _ => ?_) <;> cbv) | refine And.intro ?_ ?_ | exact True.intro)
          all_goals (try (rw [p18]; exact True.intro))
          all_goals (try (
            have h18 : A.dp (fn 18 [] 0 0) := by
              subst hA
              rw [f18]
              exact trivial
            exact fin _ h18))
          all_goals (try refine fin _ ?_)
          all_goals (
            ((try clear hK2); (try clear hK); (try clear hE); (try clear fin); subst hA; simp only [Ar.std, IntKind.min, IntKind.max, IntKind.bits, IntKind.signed, if_true, Bool.false_eq_true, if_false] at *)
            obtain ⟨s1, s2, s3, s4, s5, s6, s7⟩ := rd_sum hok hL (a := a) (b := b) (by omega) (by omega) (by omega)
            have ec : cn j = FN m x (a + b) - FN m x a := by rw [← hcn]; unfold cntN; omega
            omega)
end SX

/-
  CodeRates: for all numbers, the function returns true, and its arguments read as they did.
-/
namespace Go.Proofs.YtlgaegbommfdmaaGreat.codeRates
open Go.ChangeShapes Go.WideShapes Go.ChangeAt Go.RowKit SX

theorem own : ownKnob Tryz.prog.godebug = none := by kernel_rfl
theorem laid : laidOutB Tryz.prog = true := by kernel_rfl

theorem inl_ok : ∀ x ∈ inlH, fnOk Tryz.prog x.1 x.2 := by
  intro x hx
  simp only [inlH, List.mem_cons, List.not_mem_nil, or_false] at hx
  rcases hx with rfl | rfl | rfl
  · exact ⟨Tryz.func96, by kernel_rfl, by kernel_rfl⟩
  · exact ⟨Tryz.func97, by kernel_rfl, by kernel_rfl⟩
  · exact ⟨Tryz.func121, by kernel_rfl, by kernel_rfl⟩

theorem mixed : Tryz.prog.follows .mixedOrders = true := by kernel_rfl

theorem has_self : ∀ (l : List Ctr), (l.map (·.f)).Nodup → Has (preOf l) (resOf l) l := by
  intro l hn c hc
  have key : ∀ l : List Ctr, (l.map (·.f)).Nodup → c ∈ l → ctrOf l c.f = some c := by
    intro l
    induction l with
    | nil => intro _ h; cases h
    | cons d r ih =>
      intro hn hc
      simp only [List.map_cons, List.nodup_cons] at hn
      simp only [ctrOf]
      rcases List.mem_cons.1 hc with rfl | hc
      · rw [if_pos rfl]
      · rw [if_neg fun e => hn.1 (by rw [e]; exact List.mem_map.2 ⟨c, hc, rfl⟩)]
        exact ih hn.2 hc
  have k := key l hn hc
  exact ⟨by funext ds; simp only [preOf, k], by funext ds; simp only [resOf, k]⟩

theorem env0 : EnvOk ⟨Ar.std, tabF, sigL [], preOf [], resOf [], inlL inlH, cmpL cmpT⟩ Tryz.prog := envOk_of tab_ok cmp_ok mixed inlH inl_ok [] (fun c hc => by cases hc)

theorem env1 : EnvOk ⟨Ar.std, tabF, sigL sg1, preOf cs1, resOf cs1, inlL inlH, cmpL cmpT⟩ Tryz.prog := envOk_of tab_ok cmp_ok mixed inlH inl_ok cs1 (fun c hc => by
  simp only [cs1, List.mem_cons, List.not_mem_nil, or_false] at hc
  rcases hc with rfl | rfl | rfl
  · exact ⟨within_pure env0, _, Tryz.func52, by kernel_rfl, by kernel_rfl⟩
  · exact ⟨numbers_pure env0, _, Tryz.func15, by kernel_rfl, by kernel_rfl⟩
  · exact ⟨hold_pure env0, _, Tryz.func51, by kernel_rfl, by kernel_rfl⟩)

theorem has1 : Has (preOf cs1) (resOf cs1) cs1 := has_self cs1 (by decide)

theorem env2 : EnvOk ⟨Ar.std, tabF, sigL sg2, preOf cs2, resOf cs2, inlL inlH, cmpL cmpT⟩ Tryz.prog := envOk_of tab_ok cmp_ok mixed inlH inl_ok cs2 (fun c hc => by
  simp only [cs2, List.mem_cons, List.not_mem_nil, or_false] at hc
  rcases hc with rfl | rfl | rfl | rfl | rfl | rfl
  · exact ⟨rate_pure env1 has1, _, Tryz.func13, by kernel_rfl, by kernel_rfl⟩
  · exact ⟨refRate_pure env1 has1, _, Tryz.func14, by kernel_rfl, by kernel_rfl⟩
  · exact ⟨numbers_pure env1, _, Tryz.func15, by kernel_rfl, by kernel_rfl⟩
  · exact ⟨unrate_pure env1 has1, _, Tryz.func16, by kernel_rfl, by kernel_rfl⟩
  · exact ⟨refUnrate_pure env1 has1, _, Tryz.func17, by kernel_rfl, by kernel_rfl⟩
  · exact ⟨works_pure, _, Tryz.func18, by kernel_rfl, by kernel_rfl⟩)

theorem has2 : Has (preOf cs2) (resOf cs2) cs2 := has_self cs2 (by decide)

theorem law : PureFn Tryz.prog ⟨[(false, [.int .i64]), (false, [.int .i64]), (false, [.int .i64]), (false, [.int .i64]), (false, [.int .i64])], [(false, [.bool])]⟩ 3 (RngAll [(false, [.int .i64]), (false, [.int .i64]), (false, [.int .i64]), (false, [.int .i64]), (false, [.int .i64])]) trueRes :=
  fun w R args ds h1 h2 _ => codeRates_pure env2 has2 w R args ds h1 h2 trivial

theorem len5 {α β : Type} {F : List α → β} {G : List α → β} (h : ∀ a b c d e, F [a, b, c, d, e] = G [a, b, c, d, e]) : ∀ ds : List α, ds.length = 5 → F ds = G ds
  | [a, b, c, d, e], _ => h a b c d e

set_option maxRecDepth 100000 in
set_option maxHeartbeats 400000 in
theorem lifted (os : Os) (started : os.Started) (H : Type) (enc : TypeId × Value → H) :
    ReturnsInHanded {} Tryz.checked os 3 .any (Rows.codeRatesSpec.pre6 enc Tryz.prog Tryz.f3 Rows.codeRatesRow.domain false) (Rows.codeRatesSpec.post enc Tryz.prog Tryz.f3 false true false false) := by
  refine returnsInHanded_of_change (C := Tryz.checked) own started (by kernel_rfl) Tryz.func3
    (ChangeSpec.witness6 (enc := enc) (C := Tryz.checked) false ⟨#[], #[.int .i64 0, .int .i64 0, .int .i64 0, .int .i64 0, .int .i64 0], []⟩ 8 (by kernel_rfl) (by kernel_rfl) (by kernel_rfl) (by kernel_rfl)) ?_
  intro W base args ds gs before hval hW _ _
  exact said (f := Tryz.f3) (s := Rows.codeRatesSpec) (n := 8) (tb := 4) law (by kernel_rfl) laid (by kernel_rfl) rfl Tryz.underlying4
    (len5 (F := Rows.codeRatesSpec.fn H) (G := fun ds => ⟨[.lit (.bool true)], ds, []⟩) fun _ _ _ _ _ => rfl) rfl W base args ds gs before hval hW

theorem holds : Rows.CodeRatesSaid :=
  OpenClaim.holds_of_wide 3 Tryz.f3 rfl rfl rfl rfl rfl rfl rfl ⟨rfl, rfl, rfl, rfl, rfl⟩ rfl rfl rfl rfl rfl (by kernel_rfl) Tryz.func3 (by kernel_rfl)
    (of_decide_eq_true (by kernel_rfl)) (by unfold Func.isWrapper; first | (rw [if_pos (by decide +kernel)]; kernel_rfl) | (rw [if_neg (by decide +kernel)]; exact ⟨rfl, rfl⟩))
    (fun os started H enc _ => lifted os started H enc)
end Go.Proofs.YtlgaegbommfdmaaGreat.codeRates

/-
  CodeRound: for all numbers, the function returns true, and its arguments read as they did.
-/
namespace Go.Proofs.YtlgaegbommfdmaaGreat.codeRound
open Go.ChangeShapes Go.WideShapes Go.ChangeAt Go.RowKit SX

theorem law : PureFn Tryz.prog ⟨rdPs, [(false, [.bool])]⟩ 8 (RngAll rdPs) trueRes := codeRound_pure codeRates.env2 codeRates.has2

theorem len6 {α β : Type} {F : List α → β} {G : List α → β} (h : ∀ a b c d e f, F [a, b, c, d, e, f] = G [a, b, c, d, e, f]) : ∀ ds : List α, ds.length = 6 → F ds = G ds
  | [a, b, c, d, e, f], _ => h a b c d e f

set_option maxRecDepth 100000 in
set_option maxHeartbeats 400000 in
theorem lifted (os : Os) (started : os.Started) (H : Type) (enc : TypeId × Value → H) :
    ReturnsInHanded {} Tryz.checked os 8 .any (Rows.codeRoundSpec.pre6 enc Tryz.prog Tryz.f8 Rows.codeRoundRow.domain false) (Rows.codeRoundSpec.post enc Tryz.prog Tryz.f8 false true false false) := by
  refine returnsInHanded_of_change (C := Tryz.checked) codeRates.own started (by kernel_rfl) Tryz.func8
    (ChangeSpec.witness6 (enc := enc) (C := Tryz.checked) false ⟨#[], #[.int .u16 0, .int .u8 0, .int .u16 0, .int .u8 0, .int .u16 0, .int .u16 0], []⟩ 8 (by kernel_rfl) (by kernel_rfl) (by kernel_rfl) (by kernel_rfl)) ?_
  intro W base args ds gs before hval hW _ _
  exact said (f := Tryz.f8) (s := Rows.codeRoundSpec) (n := 8) (tb := 4) law (by kernel_rfl) codeRates.laid (by kernel_rfl) rfl Tryz.underlying4
    (len6 (F := Rows.codeRoundSpec.fn H) (G := fun ds => ⟨[.lit (.bool true)], ds, []⟩) fun _ _ _ _ _ _ => rfl) rfl W base args ds gs before hval hW

theorem holds : Rows.CodeRoundSaid :=
  OpenClaim.holds_of_wide 8 Tryz.f8 rfl rfl rfl rfl rfl rfl rfl ⟨rfl, rfl, rfl, rfl, rfl⟩ rfl rfl rfl rfl rfl (by kernel_rfl) Tryz.func8 (by kernel_rfl)
    (of_decide_eq_true (by kernel_rfl)) (by unfold Func.isWrapper; first | (rw [if_pos (by decide +kernel)]; kernel_rfl) | (rw [if_neg (by decide +kernel)]; exact ⟨rfl, rfl⟩))
    (fun os started H enc _ => lifted os started H enc)
end Go.Proofs.YtlgaegbommfdmaaGreat.codeRound
