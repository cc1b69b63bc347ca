/-
  CX: calls of yield; any operation; operations in order.
-/
import Derived.Test.YtmnaiddobipclaaCxCall
namespace CX
open Go

theorem setLoop_ok {bar : Nat} {h : T O} {id : Nat} {st : LoopState} {j : Option Code} {k : T O → R} {r : Ex × St} (hk : setLoop bar h id st j k = some r) :
    ∃ st0 j0 nt regs ps a b df, h.get id = some (.loop st0 j0 nt regs ps a b df) ∧ bar ≤ id ∧ k (h.up id (some (.loop st j nt regs ps a b df))) = some r := by
  unfold setLoop at hk
  split at hk
  · rename_i hg hb
    rw [T.set_eq] at hk
    exact ⟨_, _, _, _, _, _, _, _, hg, by simpa [geB] using hb, hk⟩
  · cases hk

section
variable {P : Program} {n bar : Nat}

theorem loopObj {ρ : Nm} {g : Nat → Option O} {w : World} (hS : HSat ρ g n w) {id : Nat} {st : LoopState} {j : Option Code} {nt : Nat} {regs : T V} {ps : List Nat} {a b : Code} {df : Nat} (hg : g id = some (.loop st j nt regs ps a b df)) :
    ∃ L D fn tm, id < n ∧ ρ id = some L ∧ df < n ∧ ρ df = some D ∧ tm.size = nt ∧ RegsOk ρ n regs tm ∧ w.heap[L.b]? = some (.loop { state := st, pending := j, fn := fn, tmps := tm, params := ps.toArray, assign := a, body := b, defers := D.b }) ∧ L.b < w.heap.size := by
  obtain ⟨h0, h⟩ := hS.objs id _ hg
  simp only [ObjOk] at h
  obtain ⟨L, fn, tm, D, h1, h2, h3, h4, h5, h6⟩ := h
  exact ⟨L, D, fn, tm, h0, h1, h2, h3, h4, h5, h6, hS.blk _ _ h1⟩

/-- The record of a loop is set. -/
theorem putLoop_ok {ρ : Nm} {g : T O} {w : World} (hS : HSat ρ g.get n w) {id : Nat} {st : LoopState} {j : Option Code} {nt : Nat} {regs : T V} {ps : List Nat} {a b : Code} {df : Nat} (hg : g.get id = some (.loop st j nt regs ps a b df)) (hbar : bar ≤ id)
    {L D : Loc} {fn : FuncId} {tm : Array Value} (h1 : ρ id = some L) (h2 : df < n) (h3 : ρ df = some D) (h4 : tm.size = nt) (h5 : RegsOk ρ n regs tm) (st' : LoopState) (j' : Option Code) :
    HSat ρ (g.up id (some (.loop st' j' nt regs ps a b df))).get n (w.putObj L.b (.loop { state := st', pending := j', fn := fn, tmps := tm, params := ps.toArray, assign := a, body := b, defers := D.b })) ∧
    Fr (Own ρ g.get bar) w (Own ρ (g.up id (some (.loop st' j' nt regs ps a b df))).get bar) (w.putObj L.b (.loop { state := st', pending := j', fn := fn, tmps := tm, params := ps.toArray, assign := a, body := b, defers := D.b })) :=
  setObj_ok (bar := bar) hS h1 hg hbar rfl ⟨rfl, rfl, rfl⟩ (by
    simp only [ObjOk]
    exact ⟨L, fn, tm, D, h1, h2, h3, h4, h5, World.putObj_heap_same (hS.blk _ _ h1)⟩)

theorem paramsX_ok {ρ : Nm} {nt : Nat} : ∀ (ps : List Nat) (vs : List V) (xs : List Value) (regs : T V) (tm : Array Value) {k : T V → R} {r : Ex × St}, paramsX nt ps vs regs k = some r → RvL ρ n vs xs → RegsOk ρ n regs tm → tm.size = nt →
    ps.length = xs.length ∧ ∃ regs', k regs' = some r ∧ RegsOk ρ n regs' ((ps.zip xs).foldl (fun tm (t, a) => tm.setIfInBounds t a) tm) ∧ ((ps.zip xs).foldl (fun tm (t, a) => tm.setIfInBounds t a) tm).size = nt
  | [], [], [], regs, tm, k, r, h, _, hR, hs => ⟨rfl, regs, h, hR, hs⟩
  | p :: ps, v :: vs, x :: xs, regs, tm, k, r, h, hv, hR, hs => by
    simp only [RvL] at hv
    simp only [paramsX] at h
    split at h
    · rename_i hp
      rw [T.set_eq] at h
      have hp : p < nt := by simpa [Nat.blt_eq] using hp
      have hR' : RegsOk ρ n (regs.up p (some v)) (tm.setIfInBounds p x) := by
        intro t y ht
        rw [T.get_up] at ht
        split at ht
        · rename_i e
          subst e
          simp only [Option.some.injEq] at ht
          subst ht
          exact ⟨x, by simp [hs, hp], hv.1⟩
        · rename_i e
          obtain ⟨u, h1, h2⟩ := hR t y ht
          exact ⟨u, by rw [Array.getElem?_setIfInBounds_ne (Ne.symm e)]; exact h1, h2⟩
      obtain ⟨h1, h2⟩ := paramsX_ok ps vs xs _ _ h hv.2 hR' (by simpa using hs)
      exact ⟨by simp [h1], by simpa using h2⟩
    · cases h
  | [], [], _ :: _, _, _, _, _, _, hv, _, _ => by simp [RvL] at hv
  | [], _ :: _, _, _, _, _, _, h, _, _, _ => by simp [paramsX] at h
  | _ :: _, [], _, _, _, _, _, h, _, _, _ => by simp [paramsX] at h
  | _ :: _, _ :: _, [], _, _, _, _, _, hv, _, _ => by simp [RvL] at hv

variable {ih : IH} (hI : IhOk P ih)
include hI

theorem callY_ok {ρ : Nm} {g : T O} {w : World} (hS : HSat ρ g.get n w) {id : Nat} {L : Loc} (hL : ρ id = some L) {args : List V} {xs : List Value} (ha : RvL ρ n args xs) {k : V → T O → Nat → R} {r : Ex × St} (h : callY ih bar g n id args k = some r) :
    ∃ v g' n' f tm assign body, k v g' n' = some r ∧ (Instr.yield L.b xs.toArray).run P w = .ok (.round L.b f tm assign body) w ∧
      ∀ ro, RoundIn (Fw ro) 0 P L.b f tm assign body w (CallPost ρ g.get n bar w v g'.get n') := by
  unfold callY at h
  split at h
  · rename_i j0 nt regs ps assign body df hg
    obtain ⟨L', D, fn, tm, hid, hL', hdf, hD, hsz, hR, hh, hb⟩ := loopObj hS hg
    rw [hL] at hL'; cases hL'
    obtain ⟨hlen, regs1, h, hR1, hsz1⟩ := paramsX_ok _ _ _ _ _ h ha hR hsz
    have hrun : (Instr.yield L.b xs.toArray).run P w = .ok (.round L.b fn ((ps.zip xs).foldl (fun tm (t, a) => tm.setIfInBounds t a) tm) assign body) w := by
      rw [run_yield hh (by simp [hlen])]
      simp
    have hSat : Sat ρ ⟨nt, bar, regs1, g, n, []⟩ { tmps := (ps.zip xs).foldl (fun tm (t, a) => tm.setIfInBounds t a) tm, defers := [] } w := ⟨hS, hsz1, hR1, by simp [RvD]⟩
    have hrd : RdOk ρ n (some id) := fun i e => by cases e; exact ⟨hid, L, hL⟩
    split at h
    · rename_i nt1 bar1 regs2 g1 n1 df1 he1
      split at h
      · rename_i j2 nt2 regs3 ps2 a2 b2 df2 hg1 hbar
        rw [T.set_eq] at h
        have hw1 := hI (some id) assign _ _ _ he1 ρ _ w hSat hrd
        rw [show rdB ρ (some id) = some L.b by simp [rdB, hL]] at hw1
        have fin : ∀ {e : Ex} {S3 : St} {st : LoopState} {j : Option Code} {b : Bool}, ih (some id) body ⟨nt, bar, regs2, g1.up id (some (.loop .busy j2 nt2 regs3 ps2 a2 b2 df2)), n1, df1⟩ = some (e, S3) →
            (∀ R w3, (∃ v w4, (Instr.endRound L.b j).run P w3 = .ok v w4 ∧ R (.returned v) w4) → ∀ a3, roundPost P L.b R (exO e) a3 w3) → b = j.isNone → st = (if j.isNone then .ready else .done) →
            outV (setLoop bar S3.h id st j fun h => retV (.bool b) h S3.nx) k = some r →
            ∃ v g' n' f tm assign body, k v g' n' = some r ∧ (Instr.yield L.b xs.toArray).run P w = .ok (.round L.b f tm assign body) w ∧
              ∀ ro, RoundIn (Fw ro) 0 P L.b f tm assign body w (CallPost ρ g.get n bar w v g'.get n') := by
          intro e S3 st j b he2 hround hbj hst hk
          obtain ⟨r0, v, g', n', hr0, hk, hv⟩ := outV_ok hk
          refine ⟨v, g', n', fn, _, assign, body, hk, hrun, fun ro => roundIn_of_wpIn trivial (wpIn_mono hw1 ?_)⟩
          rintro x a1 w1 ⟨rfl, ρ1, hL1⟩
          have e1 := hL1.nt
          have e2 := hL1.bar
          simp only at e1 e2
          subst e1 e2
          obtain ⟨L1, D1, fn1, tm1, hid1, hLL1, hdf1, hD1, hsz1', hR1', hh1, hb1⟩ := loopObj hL1.sat.hs hg1
          have hLe : L1 = L := by rw [hL1.ag id hid] at hLL1; rw [hL] at hLL1; exact (Option.some.inj hLL1).symm
          subst hLe
          obtain ⟨hS2, hF2⟩ := putLoop_ok hL1.sat.hs hg1 (by simpa [geB] using hbar) hLL1 hdf1 hD1 hsz1' hR1' (fn := fn1) .busy j2
          refine ⟨_, run_beginRound hh1 rfl, ?_⟩
          have hSat2 : Sat ρ1 ⟨nt1, bar1, regs2, g1.up id (some (.loop .busy j2 nt2 regs3 ps2 a2 b2 df2)), n1, df1⟩ a1 (w1.putObj L1.b (.loop { state := .busy, pending := j2, fn := fn1, tmps := tm1, params := ps2.toArray, assign := a2, body := b2, defers := D1.b })) := by
            exact ⟨hS2, hL1.sat.size, hL1.sat.regs, hL1.sat.df⟩
          have hw2 := hI (some id) body _ _ _ he2 ρ1 a1 _ hSat2 (fun i e => by cases e; exact ⟨hid1, L1, hLL1⟩)
          rw [show rdB ρ1 (some id) = some L1.b by simp [rdB, hLL1]] at hw2
          refine wpIn_mono hw2 ?_
          rintro x a3 w3 ⟨rfl, ρ3, hL3⟩
          refine hround _ _ ?_ _
          have e2 := hL3.bar
          simp only at e2
          subst e2
          obtain ⟨st0, j0', nt3, regs4, ps3, a3', b3, df3, hg3, hbar3, hr0⟩ := setLoop_ok hr0
          obtain ⟨L3, D3, fn3, tm3, hid3, hLL3, hdf3, hD3, hsz3, hR3, hh3, hb3⟩ := loopObj hL3.sat.hs hg3
          have hLe3 : L3 = L1 := by rw [hL3.ag id hid1] at hLL3; rw [hLL1] at hLL3; exact (Option.some.inj hLL3).symm
          subst hLe3
          obtain ⟨hS4, hF4⟩ := putLoop_ok hL3.sat.hs hg3 hbar3 hLL3 hdf3 hD3 hsz3 hR3 (fn := fn3) st j
          obtain ⟨rfl, rfl, rfl⟩ := hv _ _ _ hr0
          refine ⟨_, _, run_endRound j hh3, .bool j.isNone, ρ3, rfl, by simp only [Rv]; rw [hbj], ?_, hL1.ag.trans (hL3.ag.mono hL1.le), Nat.le_trans hL1.le hL3.le, ?_⟩
          · subst hst; exact hS4
          · subst hst; exact ((hL1.fr.trans hF2).trans hL3.fr).trans hF4
        split at h
        · rename_i he2
          exact fin he2 (fun R w3 hx a3 => hx) rfl rfl h
        · rename_i he2
          exact fin he2 (fun R w3 hx a3 => hx) rfl rfl h
        · rename_i he2
          exact fin he2 (fun R w3 hx a3 => hx) rfl rfl h
        · cases h
      · cases h
    · cases h
  · cases h

variable {E : Env} (hE : EnvOk E P)
include hE

/-- **Any operation.** -/
theorem opA_ok {ρ : Nm} {g : T O} {w : World} (hS : HSat ρ g.get n w) {o : Oper} {ev : Operand → Option V} {a : Act} (hev : ∀ x ∈ o.op.operands, ∀ v, ev x = some v → Rv ρ n v (a.eval x))
    {k : V → T O → Nat → R} {r : Ex × St} (h : opA E ih bar ev g n o.op k = some r) :
    ∃ v g' n', k v g' n' = some r ∧ ∀ (ro : Option Nat) (K : Act → World → Prop) (Q : Exit → Act → World → Prop),
      (∀ u ρ' w', Rv ρ' n' v u → HSat ρ' g'.get n' w' → agree n ρ ρ' → n ≤ n' → Fr (Own ρ g.get bar) w (Own ρ' g'.get bar) w' → K (a.put o.dst u) w') → o.wpIn (Fw ro) 0 P a w K Q := by
  have nd : ∀ m, clsOf E o.op = m → m ≠ 4 → ∀ c, o.op ≠ .defer c := by
    intro m hm hne c hc
    rw [hc] at hm
    simp [clsOf] at hm
    exact hne hm.symm
  unfold opA at h
  split at h
  · rename_i hc
    obtain ⟨v, u, h1, h2, h3⟩ := opP_ok hE (ρe := a.eval) hev h
    refine ⟨v, g, n, h1, fun ro K Q hK => ⟨fun _ _ => trivial, ?_⟩⟩
    show o.uponIn (Fw ro) 0 P a K Q ((o.semAt ro a.eval).run P w)
    rw [Oper.semAt_eq _ _ _ (nd _ hc (by decide)), h3 w, Oper.uponIn_value]
    exact hK u ρ w h2 hS (agree.refl _ _) (Nat.le_refl _) (Fr.refl _ _)
  · rename_i hc
    obtain ⟨v, u, h1, h2, h3⟩ := opL_ok hE hS (ρe := a.eval) hev hc h
    refine ⟨v, g, n, h1, fun ro K Q hK => ⟨fun _ _ => trivial, ?_⟩⟩
    show o.uponIn (Fw ro) 0 P a K Q ((o.semAt ro a.eval).run P w)
    rw [Oper.semAt_eq _ _ _ (nd _ hc (by decide)), h3, Oper.uponIn_value]
    exact hK u ρ w h2 hS (agree.refl _ _) (Nat.le_refl _) (Fr.refl _ _)
  · rename_i hc
    obtain ⟨v, g', n', h1, nxt, u, ρ', w', h2, h3, h4, h5, h6, h7, h8⟩ := opM_ok hE hS (ρe := a.eval) hev h
    refine ⟨v, g', n', h1, fun ro K Q hK => ⟨fun _ _ => trivial, ?_⟩⟩
    show o.uponIn (Fw ro) 0 P a K Q ((o.semAt ro a.eval).run P w)
    rw [Oper.semAt_eq _ _ _ (nd _ hc (by decide)), h2]
    have := hK u ρ' w' h4 h5 h6 h7 h8
    rcases h3 with rfl | ⟨rfl, rfl⟩
    · exact this
    · exact this
  · rename_i hc
    split at h
    · rename_i c ho
      split at h
      · rename_i f hcal
        split at h
        · rename_i fv hf
          have hfr := hev f (by simp [ho, Op.operands, Call.operands, hcal]) _ hf
          obtain ⟨vs, h1, h2⟩ := evL_ok' c.args.toList (ρe := a.eval) (fun x hx v => hev x (by simp [ho, Op.operands, Call.operands, hcal]; exact .inr (by simpa using hx)) v) h
          unfold callV at h1
          split at h1
          · rename_i f' fa fb
            simp only [Rv] at hfr
            obtain ⟨xa, xb, g1, g2, g3⟩ := hfr
            obtain ⟨v, g', n', fn, e1, e2, e3, e4⟩ := callF_ok hE hI hS (RvL.append (RvL.append g1 h2) g2) h1
            obtain ⟨hfn, hname⟩ := hE.fn _ _ e2
            have hname' : ¬ fn.name = "runtime.NumGoroutine" := hname
            refine ⟨v, g', n', e1, fun ro K Q hK => ⟨fun _ _ => trivial, ?_⟩⟩
            show o.uponIn (Fw ro) 0 P a K Q ((o.semAt ro a.eval).run P w)
            have hrun : (execOp a.eval o).run P w = .ok (.enter f' (xa ++ c.args.toList.map a.eval ++ xb).toArray) w := by
              simp [execOp, ho, resolve, hcal, g3, Deferred.ofValue, invoke, callFunc, hfn, hname', Option.isNone_iff_eq_none, Option.isSome_iff_ne_none.1 e3]
              try apply Array.ext'
              try simp
            rw [Oper.semAt_eq _ _ _ (nd _ hc (by decide)), hrun, Oper.uponIn_enter]
            refine ⟨fun h => by simp [Fw, Fence.wide] at h, CallsIn.mono (e4 ro) fun e w' he => ?_⟩
            obtain ⟨u, ρ', rfl, d1, d2, d3, d4, d5⟩ := he
            exact hK u ρ' w' d1 d2 d3 d4 d5
          · rename_i id
            simp only [Rv] at hfr
            obtain ⟨hid, L, xa, xb, hL, g1, g2, g3⟩ := hfr
            have e0 : xa = [] ∧ xb = [] := by
              constructor
              · cases xa with
                | nil => rfl
                | cons => simp [RvL] at g1
              · cases xb with
                | nil => rfl
                | cons => simp [RvL] at g2
            obtain ⟨rfl, rfl⟩ := e0
            obtain ⟨v, g', n', f', tm, as, bd, e1, e2, e3⟩ := callY_ok hI hS hL h2 h1
            refine ⟨v, g', n', e1, fun ro K Q hK => ⟨fun _ _ => trivial, ?_⟩⟩
            show o.uponIn (Fw ro) 0 P a K Q ((o.semAt ro a.eval).run P w)
            have hrun : (execOp a.eval o).run P w = .ok (.round L.b f' tm as bd) w := by
              rw [← e2]
              simp [execOp, ho, resolve, hcal, g3, Deferred.ofValue, invoke]
              congr 2
              apply Array.ext'
              simp
            rw [Oper.semAt_eq _ _ _ (nd _ hc (by decide)), hrun, Oper.uponIn_round]
            refine ⟨fun h => by simp [Fw, Fence.wide] at h, RoundIn.mono (e3 ro) fun e w' he => ?_⟩
            obtain ⟨u, ρ', rfl, d1, d2, d3, d4, d5⟩ := he
            exact hK u ρ' w' d1 d2 d3 d4 d5
          · cases h1
        · cases h
      · cases h
    · cases h
  · cases h
end
end CX
