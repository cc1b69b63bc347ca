/-
  CX: calls: what they come to, given what the code of functions comes to.
-/
import Derived.Test.YtmnaiddobipclaaCxM3
import Derived.Test.YtmnaiddobipclaaCxRun
import Derived.RangeFuncRecord
import Derived.RangeFuncCalls
namespace CX
open Go

def Fw (r : Option Nat) : Fence := { Fence.wide with round := r }

/-- The block of the round's loop. -/
def rdB (ρ : Nm) (rd : Option Nat) : Option Nat := rd.bind fun id => (ρ id).map Loc.b

def exO : Ex → Exit
  | .normal => .normal
  | .ret => .ret
  | .exit id => .exit id

/-- How a state comes from an earlier one. -/
structure Lands (ρ : Nm) (S : St) (w : World) (S' : St) (a' : Act) (w' : World) (ρ' : Nm) : Prop where
  sat : Sat ρ' S' a' w'
  ag : agree S.nx ρ ρ'
  le : S.nx ≤ S'.nx
  nt : S'.nt = S.nt
  bar : S'.bar = S.bar
  fr : Fr (Own ρ S.h.get S.bar) w (Own ρ' S'.h.get S'.bar) w'

def CPost (ρ : Nm) (S : St) (w : World) (e : Ex) (S' : St) : Exit → Act → World → Prop := fun x a' w' => x = exO e ∧ ∃ ρ', Lands ρ S w S' a' w' ρ'

def RdOk (ρ : Nm) (n : Nat) (rd : Option Nat) : Prop := ∀ id, rd = some id → id < n ∧ ∃ L, ρ id = some L

def IhOk (P : Program) (ih : IH) : Prop := ∀ rd c S e S', ih rd c S = some (e, S') → ∀ ρ a w, Sat ρ S a w → RdOk ρ S.nx rd → c.wpIn (Fw (rdB ρ rd)) 0 P (CPost ρ S w e S') a w

theorem Lands.trans {ρ ρ1 ρ2 : Nm} {S S1 S2 : St} {a1 a2 : Act} {w w1 w2 : World} (h : Lands ρ S w S1 a1 w1 ρ1) (k : Lands ρ1 S1 w1 S2 a2 w2 ρ2) : Lands ρ S w S2 a2 w2 ρ2 :=
  ⟨k.sat, h.ag.trans (k.ag.mono h.le), Nat.le_trans h.le k.le, k.nt.trans h.nt, k.bar.trans h.bar, h.fr.trans k.fr⟩

theorem Sat.lands {ρ : Nm} {S : St} {a : Act} {w : World} (h : Sat ρ S a w) : Lands ρ S w S a w ρ := ⟨h, agree.refl _ _, Nat.le_refl _, rfl, rfl, Fr.refl _ _⟩

theorem rdB_ag {ρ ρ' : Nm} {n : Nat} {rd : Option Nat} (h : RdOk ρ n rd) (ha : agree n ρ ρ') : rdB ρ' rd = rdB ρ rd := by
  cases rd with
  | none => rfl
  | some id => simp only [rdB, Option.bind_some, ha id (h id rfl).1]

theorem RdOk.ag {ρ ρ' : Nm} {n m : Nat} {rd : Option Nat} (h : RdOk ρ n rd) (ha : agree n ρ ρ') (hm : n ≤ m) : RdOk ρ' m rd := fun id e => by
  obtain ⟨h1, L, h2⟩ := h id e
  exact ⟨by omega, L, by rw [ha id h1]; exact h2⟩

theorem callsFw {r : Option Nat} {n : Nat} {P : Program} {f : FuncId} {args : Array Value} {w : World} {R : Ending → World → Prop} (h : Calls P f args w R) : CallsIn (Fw r) n P f args w R :=
  callsIn_wide.2 h

theorem outV_ok {β : Type} {x : R} {k : V → T O → Nat → Option β} {r : β} (h : outV x k = some r) :
    ∃ r0 v g n, x = some r0 ∧ k v g n = some r ∧ ∀ v' g' n', retV v' g' n' = some r0 → v' = v ∧ g' = g ∧ n' = n := by
  unfold outV at h
  split at h
  · exact ⟨_, _, _, _, rfl, h, fun v' g' n' e => by simp only [retV, Option.some.injEq, Prod.mk.injEq, St.mk.injEq, T.n.injEq] at e; obtain ⟨_, _, _, ⟨_, e1, _⟩, e2, e3, _⟩ := e; exact ⟨e1, e2, e3⟩⟩
  · cases h

/-- What a call comes to. -/
def CallPost (ρ : Nm) (g : Nat → Option O) (n bar : Nat) (w : World) (v : V) (g' : Nat → Option O) (n' : Nat) (e : Ending) (w' : World) : Prop :=
  ∃ u ρ', e = .returned u ∧ Rv ρ' n' v u ∧ HSat ρ' g' n' w' ∧ agree n ρ ρ' ∧ n ≤ n' ∧ Fr (Own ρ g bar) w (Own ρ' g' bar) w'

theorem enterRegs_ok {ρ : Nm} {n : Nat} : ∀ (l : List V) (x : List Value) (i : Nat) (t : T V) {k : T V → R} {r : Ex × St}, enterRegs l i t k = some r → RvL ρ n l x →
    ∃ t', k t' = some r ∧ ∀ j v, t'.get j = some v → (∃ u, i ≤ j ∧ x[j - i]? = some u ∧ Rv ρ n v u) ∨ t.get j = some v
  | [], [], i, t, k, r, h, _ => ⟨t, h, fun j v hj => .inr hj⟩
  | v :: l, u :: x, i, t, k, r, h, hr => by
    simp only [RvL] at hr
    simp only [enterRegs] at h
    rw [T.set_eq] at h
    obtain ⟨t', h1, h2⟩ := enterRegs_ok l x (Nat.succ i) _ h hr.2
    refine ⟨t', h1, fun j w hj => ?_⟩
    rcases h2 j w hj with ⟨u', h3, h4, h5⟩ | h3
    · exact .inl ⟨u', by omega, by rw [show j - i = (j - Nat.succ i) + 1 by omega]; simpa using h4, h5⟩
    · rw [T.get_up] at h3
      split at h3
      · rename_i e
        subst e
        simp only [Option.some.injEq] at h3
        subst h3
        exact .inl ⟨u, Nat.le_refl _, by simp, hr.1⟩
      · exact .inr h3
  | [], _ :: _, _, _, _, _, _, hr => by simp [RvL] at hr
  | _ :: _, [], _, _, _, _, _, hr => by simp [RvL] at hr

theorem enterRegs_len {ρ : Nm} {n : Nat} {l : List V} {x : List Value} (hr : RvL ρ n l x) {k : T V → R} {r : Ex × St} (h : enterRegs l 0 .e k = some r) {nt : Nat} (hn : len l ≤ nt) :
    ∃ t', k t' = some r ∧ RegsOk ρ n t' (x.toArray ++ Array.replicate (nt - x.toArray.size) undef) ∧ (x.toArray ++ Array.replicate (nt - x.toArray.size) undef).size = nt := by
  have hlen := hr.length
  rw [len_eq] at hn
  obtain ⟨t', h1, h2⟩ := enterRegs_ok l x 0 .e h hr
  refine ⟨t', h1, fun j v hj => ?_, by simp; omega⟩
  rcases h2 j v hj with ⟨u, _, h3, h4⟩ | h3
  · refine ⟨u, ?_, h4⟩
    simp only [Nat.sub_zero] at h3
    have := (List.getElem?_eq_some_iff.1 h3).1
    rw [Array.getElem?_append_left (by simpa using this)]
    simpa using h3
  · simp [T.get] at h3

section
variable {P : Program} {E : Env} {n bar : Nat} {F : Fence}

theorem takeDf_ok {ρ : Nm} {n bar : Nat} : ∀ (l : List Nat) (ds : List Deferred) (h : T O) (w : World) {k : T O → R} {r : Ex × St}, takeDf bar l h k = some r → HSat ρ h.get n w → RvD ρ n l ds →
    ∃ h' w', k h' = some r ∧ HSat ρ h'.get n w' ∧ Fr (Own ρ h.get bar) w (Own ρ h'.get bar) w' ∧
      ∀ fn tm R, LeavesInM F 0 P fn tm R [] .returning w' → LeavesInM F 0 P fn tm R ds .returning w
  | [], [], h, w, k, r, hk, hS, _ => ⟨h, w, hk, hS, Fr.refl _ _, fun _ _ _ h => h⟩
  | d :: l, x :: ds, h, w, k, r, hk, hS, hD => by
    simp only [RvD] at hD
    obtain ⟨hd, ⟨L, hL, hx⟩, hD⟩ := hD
    simp only [takeDf] at hk
    split at hk
    · rename_i hg hb
      rw [T.set_eq] at hk
      have hob := (hS.objs d _ hg).2
      simp only [ObjOk] at hob
      obtain ⟨L', hL', hh⟩ := hob
      rw [hL] at hL'; cases hL'
      obtain ⟨h1, h2⟩ := setObj_ok (bar := bar) hS hL hg (by simpa [geB] using hb) (o' := .dfr false) (ob := .deferred none) (w' := w.putObj L.b (.deferred none)) rfl ⟨rfl, rfl, rfl⟩
        (by simp only [ObjOk]; exact ⟨L, hL, World.putObj_heap_same (hS.blk d L hL)⟩)
      obtain ⟨h', w', h3, h4, h5, h6⟩ := takeDf_ok l ds _ _ hk h1 hD
      refine ⟨h', w', h3, h4, h2.trans h5, fun fn tm R hR => ?_⟩
      refine ⟨by simp, .inl ⟨L.b, _, by rw [hx], ?_, h6 fn tm R hR⟩⟩
      exact run_takeDeferred (by simpa using hh)
    · cases hk
  | [], _ :: _, _, _, _, _, _, _, hD => by simp [RvD] at hD
  | _ :: _, [], _, _, _, _, _, _, hD => by simp [RvD] at hD

def resSem (tmps : Array Value) : ResultVar → Sem Value
  | .tmp t => pure (tmps.getD t undef)
  | .cell y t => do loadVar t (← asAddr (tmps.getD y undef))

variable (hE : EnvOk E P)
include hE

theorem resultsX_ok {ρ : Nm} {g : T O} {w : World} (hS : HSat ρ g.get n w) {regs : T V} {tm : Array Value} (hR : RegsOk ρ n regs tm) : ∀ (l : List ResultVar) {k : List V → R} {r : Ex × St}, resultsX E regs g l k = some r →
    ∃ vs us, k vs = some r ∧ RvL ρ n vs us ∧ (l.mapM (resSem tm)).run P w = .ok us w
  | [], k, r, h => ⟨[], [], h, by simp [RvL], by simp⟩
  | .tmp t :: l, k, r, h => by
    simp only [resultsX] at h
    split at h
    · rename_i v hv
      obtain ⟨vs, us, h1, h2, h3⟩ := resultsX_ok hS hR l h
      obtain ⟨u, hu, hr⟩ := hR t v hv
      refine ⟨v :: vs, u :: us, h1, by simp only [RvL]; exact ⟨hr, h2⟩, ?_⟩
      rw [List.mapM_cons, Sem.run_bind]
      simp only [resSem, Sem.run_pure, Result.andThen_ok]
      rw [Sem.run_bind, h3, Result.andThen_ok, Sem.run_pure, Array.getD_eq_getD_getElem?, hu]
      rfl
    · cases h
  | .cell y t :: l, k, r, h => by
    simp only [resultsX] at h
    split at h
    · rename_i ty id off hty hy
      split at h
      · rename_i c m hg
        split at h
        · rename_i hle
          have hle : off + ty.size ≤ m := by simpa using hle
          obtain ⟨u0, hu0, hr0⟩ := hR y _ hy
          simp only [Rv] at hr0
          obtain ⟨_, L, hL, rfl⟩ := hr0
          obtain ⟨l1, xs, L', cur, tt, h1, h2, h3, h4, h5, h6, h7, h8, h9, h10⟩ := cells_read hS hg hle h
          rw [hL] at h5; cases h5
          obtain ⟨v, u, g1, g2, g3⟩ := run_loadVar hE hty w ⟨L.b, L.base + off, none⟩ h3 h2 h10 h1
          obtain ⟨vs, us, f1, f2, f3⟩ := resultsX_ok hS hR l g1
          refine ⟨v :: vs, u :: us, f1, by simp only [RvL]; exact ⟨g2, f2⟩, ?_⟩
          have haddr : tm.getD y undef = .pointer (some ⟨L.b, L.base + off, none⟩) := by rw [Array.getD_eq_getD_getElem?, hu0]; rfl
          rw [List.mapM_cons, Sem.run_bind]
          have : (resSem tm (.cell y t)).run P w = .ok u w := by simp [resSem, haddr, asAddr, g3]
          rw [this, Result.andThen_ok, Sem.run_bind, f3, Result.andThen_ok, Sem.run_pure]
        · cases h
      · cases h
    · cases h

omit hE in
theorem results_run {fn : Func} {tm : Array Value} {w : World} {us : List Value} (h : (fn.results.toList.mapM (resSem tm)).run P w = .ok us w) {ρ : Nm} {vs : List V} (hv : RvL ρ n vs us) :
    ∃ u, (results fn tm).run P w = .ok u w ∧ Rv ρ n (one vs) u := by
  have e : (results fn tm).run P w = .ok (let vs := us.toArray; if h : vs.size = 1 then vs[0] else .tuple vs) w := by
    have e1 : results fn tm = (do
        let vs ← fn.results.mapM (resSem tm)
        pure (if h : vs.size = 1 then vs[0] else .tuple vs)) := by
      unfold results
      congr 1
    rw [e1, Array.mapM_eq_mapM_toList, map_eq_pure_bind, Sem.run_bind, Sem.run_bind, h, Result.andThen_ok, Sem.run_pure, Result.andThen_ok, Sem.run_pure]
  rw [e]
  refine ⟨_, rfl, ?_⟩
  match vs, us, hv with
  | [], [], hv => simp [one, Rv, RvL]
  | [v], [u], hv => simpa [one, RvL] using hv
  | v :: v' :: vs, u :: u' :: us, hv => simp only [one, Rv]; exact ⟨_, hv, by simp⟩
  | [], _ :: _, hv => simp [RvL] at hv
  | _ :: _, [], hv => simp [RvL] at hv
  | [_], _ :: _ :: _, hv => simp [RvL] at hv
  | _ :: _ :: _, [_], hv => simp [RvL] at hv

variable {ih : IH} (hI : IhOk P ih)
include hI

theorem callF_ok {ρ : Nm} {g : T O} {w : World} (hS : HSat ρ g.get n w) {f : Nat} {args : List V} {xs : List Value} (ha : RvL ρ n args xs) {k : V → T O → Nat → R} {r : Ex × St} (h : callF E ih bar g n f args k = some r) :
    ∃ v g' n' fn, k v g' n' = some r ∧ E.fn f = some fn ∧ fn.body.isSome = true ∧ ∀ ro, CallsIn (Fw ro) 0 P f xs.toArray w (CallPost ρ g.get n bar w v g'.get n') := by
  unfold callF at h
  split at h
  · rename_i fn hfn
    obtain ⟨hf, hname⟩ := hE.fn f fn hfn
    split at h
    · rename_i c hb hle
      obtain ⟨regs, h1, h2, h3⟩ := enterRegs_len ha h (by simpa using hle)
      have hSat : Sat ρ ⟨fn.ntmps, bar, regs, g, n, []⟩ { tmps := xs.toArray ++ Array.replicate (fn.ntmps - xs.toArray.size) undef, defers := [] } w := ⟨hS, h3, h2, by simp [RvD]⟩
      have fin : ∀ {e : Ex} {nt' bar' : Nat} {regs' : T V} {h' : T O} {nx' : Nat} {df' : List Nat}, ih none c ⟨fn.ntmps, bar, regs, g, n, []⟩ = some (e, ⟨nt', bar', regs', h', nx', df'⟩) → (e = .normal ∨ e = .ret) →
          outV (takeDf bar df' h' fun h => resultsX E regs' h fn.results.toList fun l => retV (one l) h nx') k = some r →
          ∃ v g' n' fn, k v g' n' = some r ∧ E.fn f = some fn ∧ fn.body.isSome = true ∧ ∀ ro, CallsIn (Fw ro) 0 P f xs.toArray w (CallPost ρ g.get n bar w v g'.get n') := by
        intro e nt' bar' regs' h' nx' df' he hee hk
        obtain ⟨r0, v, g', n', hr0, hk, hv⟩ := outV_ok hk
        refine ⟨v, g', n', fn, hk, hfn, by simp [hb], fun ro => ?_⟩
        have hw := hI none c _ _ _ he ρ _ w hSat (fun _ h => by cases h)
        refine callsFw (callsIn_wide.1 (callsIn_of_wp_marks hf hb trivial (wpIn_mono hw ?_)))
        rintro x a' w' ⟨rfl, ρ', hL⟩
        have hlv : LeavesInM Fence.wide 0 P fn a'.tmps (CallPost ρ g.get n bar w v g'.get n') a'.defers .returning w' := by
          obtain ⟨h2, w2, e1, e2, e3, e4⟩ := takeDf_ok (P := P) df' a'.defers h' w' hr0 hL.sat.hs hL.sat.df
          obtain ⟨vs, us, f1, f2, f3⟩ := resultsX_ok hE e2 hL.sat.regs _ e1
          obtain ⟨rfl, rfl, rfl⟩ := hv _ _ _ f1
          obtain ⟨u, d1, d2⟩ := results_run f3 f2
          refine e4 _ _ _ ?_
          simp only [LeavesInM, LeavesIn]
          have hbar := hL.bar
          simp only at hbar
          subst hbar
          exact ⟨u, d1, u, ρ', rfl, d2, e2, hL.ag, hL.le, hL.fr.trans e3⟩
        rcases hee with rfl | rfl
        · exact hlv
        · exact hlv
      split at h1
      · rename_i he
        exact fin he (.inl rfl) h1
      · rename_i he
        exact fin he (.inr rfl) h1
      · cases h1
    · cases h
  · cases h
end
end CX
