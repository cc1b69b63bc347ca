/-
  CX: code: what the executor comes to is what the model comes to, whatever it draws.
-/
import Derived.Test.YtmnaiddobipclaaCxDraw5
import Derived.LoopNIn
namespace CX
open Go

theorem roundsIn_mono {F : Fence} {n : Nat} {P : Program} {c : Code} {Q Q' : Exit → Act → World → Prop} (hq : ∀ e a w, Q e a w → Q' e a w) : ∀ (m : Nat) (a : Act) (w : World), Code.roundsIn F n P c Q m a w → Code.roundsIn F n P c Q' m a w
  | 0, _, _, h => h
  | m + 1, a, w, h => by
    rw [roundsIn_succ] at h ⊢
    refine wpIn_mono h fun e a w he => ?_
    cases e <;> first | exact roundsIn_mono hq m a w he | exact hq _ _ _ he

def IhLoop (P : Program) (ih : IH) (m : Nat) : Prop := ∀ rd c S e S', ih rd (.loop c) S = some (e, S') → ∀ ρ a w, Sat ρ S a w → RdOk ρ S.nx rd → Code.roundsIn (Fw (rdB ρ rd)) 0 P c (CPost ρ S w e S') m a w

theorem CPost.after {ρ ρ1 : Nm} {S S1 : St} {a1 : Act} {w w1 : World} (h : Lands ρ S w S1 a1 w1 ρ1) {e : Ex} {S' : St} {x : Exit} {a' : Act} {w' : World} (hp : CPost ρ1 S1 w1 e S' x a' w') : CPost ρ S w e S' x a' w' := by
  obtain ⟨h1, ρ2, h2⟩ := hp
  exact ⟨h1, ρ2, h.trans h2⟩

theorem run_enterLoop_inner {P : Program} {w : World} (fn : FuncId) (tmps : Array Value) (ps : Array Tmp) (assign body : Code) {l : Nat} {r : Loop} (h : w.heap[l]? = some (.loop r)) :
    (Instr.enterLoop fn tmps ps assign body (some l)).run P w = .ok (w.heap.size, []) (w.alloc (.loop { state := .ready, pending := none, fn, tmps, params := ps, assign, body, defers := r.defers })) := by
  unfold Instr.enterLoop
  simp only [Sem.run_bind, run_getLoop h, run_newObj_alloc, Result.andThen, Sem.run_pure]

section
variable {P : Program} {E : Env} (hE : EnvOk E P) {ih : IH} (hI : IhOk P ih)
include hE hI

/-- What a range over a function comes to, once the loop's record lies. -/
theorem range_ok {ρ ρ1 : Nm} {S : St} {a : Act} {w w1 : World} {nx1 : Nat} {g1 : T O} {lid : Nat} {L : Loc} {mark : List Deferred} {df' : List Nat} {rd : Option Nat} {fnn : FuncId}
    (hsize : a.tmps.size = S.nt) (hreg : RegsOk ρ S.nx S.regs a.tmps) (hS1 : HSat ρ1 g1.get nx1 w1) (hag : agree S.nx ρ ρ1) (hle : S.nx ≤ nx1) (hlid : lid < nx1) (hL : ρ1 lid = some L) (hfr : Fr (Own ρ S.h.get S.bar) w (Own ρ1 g1.get S.bar) w1)
    (hdf : RvD ρ1 nx1 df' (mark ++ a.defers)) {gop : Operand} {ps : Array Tmp} {assign body : Code} {f : Nat} {ga gb : List V} (hgo : evR S.regs gop = some (.fn (.func f) ga gb)) {r : Ex × St}
    (h : callF E ih S.bar g1 nx1 f (ga ++ [.fn (.yield lid) [] []] ++ gb) (fun _ h nx => match h.get lid with
          | some (.loop .busy ..) => none
          | some (.loop _ j ..) => setLoop S.bar h lid .exhausted j fun h => exitOf j ⟨S.nt, S.bar, S.regs, h, nx, df'⟩
          | _ => none) = some r) (henter : (Instr.enterLoop fnn a.tmps ps assign body (rdB ρ rd)).run P w = .ok (L.b, mark) w1) :
    ∃ (l : Nat) (mark : List Deferred) (w₁ : World) (d : Deferred) (w₁' : World) (f : FuncId) (args : Array Value) (w₂ : World),
      (Instr.enterLoop fnn a.tmps ps assign body (Fw (rdB ρ rd)).round).run P w = .ok (l, mark) w₁ ∧
      (resolve a.eval (rangeCall gop l) 0).run P w₁ = .ok d w₁' ∧
      (∀ f', Target.leads P w₁' d.target d.args = some f' → (Fw (rdB ρ rd)).fn f') ∧
      (invoke d.target d.args).run P w₁' = .ok (.enter f args) w₂ ∧
      ((Fw (rdB ρ rd)).depth.isSome = true → 1 ≤ 0) ∧
      CallsIn (Fw (rdB ρ rd)) (0 - 1) P f args w₂ (rangePost (Fw (rdB ρ rd)) 0 P l (CPost ρ S w r.1 r.2) { a with defers := mark ++ a.defers }) := by
  have hgv := evR_ok hreg gop _ hgo
  simp only [Rv] at hgv
  obtain ⟨xa, xb, g1', g2', g3'⟩ := hgv
  have ext : ∀ {l x}, RvL ρ S.nx l x → RvL ρ1 nx1 l x := fun h => RvL.ag hle hag h
  obtain ⟨v, g', n', fn, hk, e2, e3, e4⟩ := callF_ok hE hI hS1 (RvL.append (RvL.append (ext g1') (x' := [Value.func (.yield L.b) #[] #[]]) (by simp only [RvL, Rv]; exact ⟨⟨hlid, L, [], [], hL, trivial, trivial, rfl⟩, trivial⟩)) (ext g2')) h
  obtain ⟨hfn, hname⟩ := hE.fn _ _ e2
  have hname' : ¬ fn.name = "runtime.NumGoroutine" := hname
  have hev : ∀ x, a.eval (.const x) = x := fun _ => rfl
  refine ⟨L.b, mark, w1, { target := .fn (.func f) xb.toArray, args := xa.toArray ++ #[Value.func (.yield L.b) #[] #[]] }, w1, f, (xa ++ [Value.func (.yield L.b) #[] #[]] ++ xb).toArray, w1, henter, ?_, fun _ _ => trivial, ?_, by simp [Fw, Fence.wide], ?_⟩
  · simp [resolve, Deferred.ofValue, g3', hev]
  · simp [invoke, callFunc, hfn, hname', Option.isNone_iff_eq_none, Option.isSome_iff_ne_none.1 e3]
  · refine CallsIn.mono (e4 _) fun e w3 he => ?_
    obtain ⟨u, ρ3, rfl, d1, d2, d3, d4, d5⟩ := he
    have fin : ∀ {st : LoopState} {j : Option Code} {nt : Nat} {regs : T V} {ps' : List Nat} {a' b' : Code} {dfi : Nat}, g'.get lid = some (.loop st j nt regs ps' a' b' dfi) → st ≠ .busy →
        (setLoop S.bar g' lid .exhausted j fun h => exitOf j ⟨S.nt, S.bar, S.regs, h, n', df'⟩) = some r →
        rangePost (Fw (rdB ρ rd)) 0 P L.b (CPost ρ S w r.1 r.2) { a with defers := mark ++ a.defers } (.returned u) w3 := by
      intro st j nt regs ps' a' b' dfi hg hst hk
      obtain ⟨st0, j0, nt0, regs0, ps0, a0, b0, df0, hg0, hbar, hk⟩ := setLoop_ok hk
      rw [hg] at hg0
      cases hg0
      obtain ⟨L', D', fn', tm', k1, k2, k3, k4, k5, k6, k7, k8⟩ := loopObj d2 hg
      have hLe : L' = L := by rw [d3 lid hlid] at k2; rw [hL] at k2; exact (Option.some.inj k2).symm
      subst hLe
      obtain ⟨hS4, hF4⟩ := putLoop_ok (bar := S.bar) d2 hg hbar k2 k3 k4 k5 k6 (fn := fn') .exhausted j
      refine ⟨j, _, run_endLoop k7 hst, ?_⟩
      have hLand : Lands ρ S w ⟨S.nt, S.bar, S.regs, g'.up lid (some (.loop .exhausted j nt regs ps' a' b' dfi)), n', df'⟩ { a with defers := mark ++ a.defers } _ ρ3 :=
        ⟨⟨hS4, hsize, hreg.ext (Nat.le_trans hle d4) (fun i L hi hl => by rw [d3 i (by omega), hag i hi]; exact hl), hdf.ext d4 (fun i L hi hl => by rw [d3 i hi]; exact hl)⟩, hag.trans (d3.mono hle), Nat.le_trans hle d4, rfl, rfl, (hfr.trans d5).trans hF4⟩
      unfold exitOf at hk
      split at hk
      · simp only [Option.some.injEq] at hk
        subst hk
        exact ⟨rfl, ρ3, hLand⟩
      · simp only [Option.some.injEq] at hk
        subst hk
        exact wpIn_ret ⟨rfl, ρ3, hLand⟩
      · simp only [Option.some.injEq] at hk
        subst hk
        exact wpIn_exit ⟨rfl, ρ3, hLand⟩
      · cases hk
    split at hk
    · cases hk
    · rename_i hnb hg
      exact fin hg (fun e => hnb e) hk
    · cases hk

theorem rangeX_ok {rd : Option Nat} {gop : Operand} {ps : Array Tmp} {assign body : Code} {S : St} {r : Ex × St} (h : rangeX E ih rd gop ps assign body S = some r) {ρ : Nm} {a : Act} {w : World} (hS : Sat ρ S a w) (hrd : RdOk ρ S.nx rd) :
    (Code.rangeFunc gop ps assign body).wpIn (Fw (rdB ρ rd)) 0 P (CPost ρ S w r.1 r.2) a w := by
  unfold rangeX at h
  split at h
  · rename_i f ga gb hgo
    split at h
    · rename_i l
      split at h
      · rename_i q1 q2 q3 q4 q5 q6 q7 df hg
        rw [CX.new, T.set_eq] at h
        obtain ⟨L0, D, fn0, tm0, k1, k2, k3, k4, k5, k6, k7, k8⟩ := loopObj hS.hs hg
        have hrb : rdB ρ (some l) = some L0.b := by simp [rdB, k2]
        refine wpIn_rangeFunc fun fnn _ => ?_
        obtain ⟨hS1, hF1⟩ := hS.hs.new (bar := S.bar) (g' := (S.h.up S.nx (some (.loop .ready none S.nt S.regs ps.toList assign body df))).get) (w' := w.alloc (.loop { state := .ready, pending := none, fn := fnn, tmps := a.tmps, params := ps, assign := assign, body := body, defers := D.b })) (bs := 0) rfl ⟨rfl, rfl, rfl⟩
          (o := .loop .ready none S.nt S.regs ps.toList assign body df) (by
            simp only [ObjOk]
            refine ⟨⟨w.heap.size, 0, 0⟩, fnn, a.tmps, D, put_same _ _ _, by omega, ?_, hS.size, hS.regs.ext (Nat.le_succ _) (fun i L hi hl => ?_), ?_⟩
            · rw [Nm.put, if_neg (Nat.ne_of_lt k3)]; exact k4
            · rw [Nm.put, if_neg (Nat.ne_of_lt hi)]; exact hl
            · simpa using alloc_get w _) (fun id => T.get_up _ _ _ _)
        have hag := agree_put ρ S.nx ⟨w.heap.size, 0, 0⟩
        exact range_ok hE hI (mark := []) hS.size hS.regs hS1 hag (Nat.le_succ _) (Nat.lt_succ_self _) (put_same _ _ _) hF1 (hS.df.ext (Nat.le_succ _) (fun i L hi hl => by rw [hag i hi]; exact hl)) hgo h (by rw [hrb]; exact run_enterLoop_inner _ _ _ _ _ k7)
      · cases h
    · rw [CX.new, T.set_eq, CX.new, T.set_eq] at h
      refine wpIn_rangeFunc fun fnn _ => ?_
      obtain ⟨hS1, hF1⟩ := hS.hs.new (bar := S.bar) (g' := (S.h.up S.nx (some (.dfr true))).get) (w' := w.alloc (.deferred (some []))) (bs := 0) rfl ⟨rfl, rfl, rfl⟩ (o := .dfr true) (by
          simp only [ObjOk]
          exact ⟨⟨w.heap.size, 0, 0⟩, put_same _ _ _, by simpa using alloc_get w _⟩) (fun id => T.get_up _ _ _ _)
      have hag := agree_put ρ S.nx ⟨w.heap.size, 0, 0⟩
      obtain ⟨hS2, hF2⟩ := hS1.new (bar := S.bar) (g' := ((S.h.up S.nx (some (.dfr true))).up (S.nx + 1) (some (.loop .ready none S.nt S.regs ps.toList assign body S.nx))).get)
        (w' := (w.alloc (.deferred (some []))).alloc (.loop { state := .ready, pending := none, fn := fnn, tmps := a.tmps, params := ps, assign := assign, body := body, defers := w.heap.size })) (bs := 0) rfl ⟨rfl, rfl, rfl⟩
          (o := .loop .ready none S.nt S.regs ps.toList assign body S.nx) (by
            simp only [ObjOk]
            refine ⟨⟨(w.alloc (.deferred (some []))).heap.size, 0, 0⟩, fnn, a.tmps, ⟨w.heap.size, 0, 0⟩, put_same _ _ _, by omega, ?_, hS.size, hS.regs.ext (by omega) (fun i L hi hl => ?_), ?_⟩
            · rw [Nm.put, if_neg (by omega)]; exact put_same _ _ _
            · rw [Nm.put, if_neg (by omega), Nm.put, if_neg (by omega)]; exact hl
            · simpa using alloc_get (w.alloc (.deferred (some []))) _) (fun id => T.get_up _ _ _ _)
      have hag2 := agree_put (ρ.put S.nx ⟨w.heap.size, 0, 0⟩) (S.nx + 1) ⟨(w.alloc (.deferred (some []))).heap.size, 0, 0⟩
      have hagA := hag.trans (hag2.mono (Nat.le_succ _))
      refine range_ok hE hI (mark := [{ target := .collected w.heap.size, args := #[] }]) hS.size hS.regs hS2 hagA (by omega) (Nat.lt_succ_self _) (put_same _ _ _) (hF1.trans hF2) ?_ hgo h ?_
      · simp only [List.singleton_append, RvD]
        refine ⟨by omega, ⟨⟨w.heap.size, 0, 0⟩, ?_, rfl⟩, hS.df.ext (by omega) (fun i L hi hl => by rw [hagA i hi]; exact hl)⟩
        rw [Nm.put, if_neg (by omega)]; exact put_same _ _ _
      · have := run_enterLoop_outer (P := P) (w := w) fnn a.tmps ps assign body
        simpa [rdB] using this
  · cases h

omit hE in
theorem cxLoop_ok {m : Nat} (hLp : IhLoop P ih m) : IhLoop P (cxBody E ih) (m + 1) := by
  intro rd c S e S' h ρ a w hS hrd
  rw [roundsIn_succ]
  simp only [cxBody] at h
  split at h
  · rename_i S1 h1
    refine wpIn_mono (hI rd c _ _ _ h1 ρ a w hS hrd) ?_
    rintro x a1 w1 ⟨rfl, ρ1, hL⟩
    have := hLp rd c _ _ _ h ρ1 a1 w1 hL.sat (hrd.ag hL.ag hL.le)
    rw [rdB_ag hrd hL.ag] at this
    exact roundsIn_mono (fun x a2 w2 hp => hp.after hL) m a1 w1 this
  · rename_i hne
    refine wpIn_mono (hI rd c _ _ _ h ρ a w hS hrd) ?_
    rintro x a1 w1 ⟨rfl, hp⟩
    cases e with
    | normal => exact (hne _ h).elim
    | ret => exact ⟨rfl, hp⟩
    | exit id => exact ⟨rfl, hp⟩

/-- **One level of code.** -/
theorem cxBody_ok {m : Nat} (hLp : IhLoop P ih m) : IhOk P (cxBody E ih) := by
  intro rd c S e S' h ρ a w hS hrd
  cases c with
  | skip => simp only [cxBody, Option.some.injEq, Prod.mk.injEq] at h; obtain ⟨rfl, rfl⟩ := h; exact wpIn_skip ⟨rfl, ρ, hS.lands⟩
  | label l => simp only [cxBody, Option.some.injEq, Prod.mk.injEq] at h; obtain ⟨rfl, rfl⟩ := h; exact wpIn_label ⟨rfl, ρ, hS.lands⟩
  | ret => simp only [cxBody, Option.some.injEq, Prod.mk.injEq] at h; obtain ⟨rfl, rfl⟩ := h; exact wpIn_ret ⟨rfl, ρ, hS.lands⟩
  | exit id => simp only [cxBody, Option.some.injEq, Prod.mk.injEq] at h; obtain ⟨rfl, rfl⟩ := h; exact wpIn_exit ⟨rfl, ρ, hS.lands⟩
  | seq c1 c2 =>
    simp only [cxBody] at h
    split at h
    · rename_i S1 h1
      refine wpIn_seq (wpIn_mono (hI rd c1 _ _ _ h1 ρ a w hS hrd) ?_)
      rintro x a1 w1 ⟨rfl, ρ1, hL⟩
      have := hI rd c2 _ _ _ h ρ1 a1 w1 hL.sat (hrd.ag hL.ag hL.le)
      rw [rdB_ag hrd hL.ag] at this
      exact wpIn_mono this fun x a2 w2 hp => hp.after hL
    · rename_i hne
      refine wpIn_seq (wpIn_mono (hI rd c1 _ _ _ h ρ a w hS hrd) ?_)
      rintro x a1 w1 ⟨rfl, hp⟩
      cases e with
      | normal => exact (hne _ h).elim
      | ret => exact ⟨rfl, hp⟩
      | exit id => exact ⟨rfl, hp⟩
  | block id c1 =>
    simp only [cxBody] at h
    split at h
    · rename_i i S1 h1
      refine wpIn_block (wpIn_mono (hI rd c1 _ _ _ h1 ρ a w hS hrd) ?_)
      rintro x a1 w1 ⟨rfl, hp⟩
      simp only [exO, Exit.inBlock]
      split at h
      · rename_i hb
        simp only [Option.some.injEq, Prod.mk.injEq] at h
        obtain ⟨rfl, rfl⟩ := h
        rw [if_pos (Nat.eq_of_beq_eq_true hb)]
        exact ⟨rfl, hp⟩
      · rename_i hb
        simp only [Option.some.injEq, Prod.mk.injEq] at h
        obtain ⟨rfl, rfl⟩ := h
        rw [if_neg (fun e => by subst e; simp at hb)]
        exact ⟨rfl, hp⟩
    · rename_i hne
      refine wpIn_block (wpIn_mono (hI rd c1 _ _ _ h ρ a w hS hrd) ?_)
      rintro x a1 w1 ⟨rfl, hp⟩
      cases e with
      | normal => exact ⟨rfl, hp⟩
      | ret => exact ⟨rfl, hp⟩
      | exit id => exact (hne _ _ h).elim
  | cond x c1 c2 =>
    simp only [cxBody] at h
    split at h
    · rename_i hx
      have hv := evR_ok hS.regs x _ hx
      simp only [Rv] at hv
      exact wpIn_cond_true hv (hI rd c1 _ _ _ h ρ a w hS hrd)
    · rename_i hx
      have hv := evR_ok hS.regs x _ hx
      simp only [Rv] at hv
      exact wpIn_cond_false hv (hI rd c2 _ _ _ h ρ a w hS hrd)
    · cases h
  | loop c1 =>
    exact wpIn_loop_rounds (m + 1) (cxLoop_ok hI hLp rd c1 S e S' h ρ a w hS hrd)
  | region id ops draw =>
    cases draw with
    | true =>
      obtain ⟨S1, h1, h2⟩ := draw_ok (id := id) (ro := rdB ρ rd) hE hI hS h
      simp only [Prod.mk.injEq] at h1
      obtain ⟨rfl, rfl⟩ := h1
      exact h2
    | false =>
      simp only [cxBody] at h
      refine wpIn_region ?_
      rw [List.range_eq_range']
      have := seqOps_ok hE hI (ro := rdB ρ rd) ops (ρ0 := ρ) (S0 := S) (w0 := w) ops.toList 0 S (fun j => by simp) h hS.lands (Q := CPost ρ S w e S') (fun S1 ρ1 a1 w1 h1 hL => by
        simp only [Option.some.injEq, Prod.mk.injEq] at h1
        obtain ⟨rfl, rfl⟩ := h1
        exact ⟨rfl, ρ1, hL⟩)
      simpa using this
  | rangeFunc gop ps assign body =>
    have := rangeX_ok hE hI (rd := rd) (r := (e, S')) h hS hrd
    exact this
  | _ => cases h

omit hI in
theorem cx_ok : ∀ n, IhOk P (cx E n) ∧ IhLoop P (cx E n) n
  | 0 => ⟨fun rd c S e S' h => absurd (show (none : R) = some (e, S') from h) (by simp), fun rd c S e S' h => absurd (show (none : R) = some (e, S') from h) (by simp)⟩
  | n + 1 => ⟨cxBody_ok hE (cx_ok n).1 (cx_ok n).2, cxLoop_ok (cx_ok n).1 (cx_ok n).2⟩

/-- The world has grown; what there was lies as it lay. -/
def Kept (w w' : World) : Prop := w'.os = w.os ∧ w'.tape = w.tape ∧ w'.output = w.output ∧ w.heap.size ≤ w'.heap.size ∧ ∀ b, b < w.heap.size → w'.heap[b]? = w.heap[b]?

omit hI in
/-- **What the executor says of a call holds.** -/
theorem cx_call {f : FuncId} {n : Nat} {v : V} {args : List V} {xs : List Value} (ha : RvL (fun _ => none) 0 args xs) (h : callF E (cx E n) 0 .e 0 f args (fun v _ _ => retV v .e 0) = some (.normal, ⟨0, 0, .n .e (some v) .e, .e, 0, []⟩)) (w : World) :
    Calls P f xs.toArray w fun e w' => ∃ u ρ n, e = .returned u ∧ Rv ρ n v u ∧ Kept w w' := by
  obtain ⟨v', g', n', fn, h1, _, _, h2⟩ := callF_ok hE (cx_ok hE n).1 (ρ := fun _ => none) (n := 0) (bar := 0) (g := .e) (w := w) (xs := xs) ⟨fun id o h => by simp [T.get] at h, fun id o id' o' h => by simp [T.get] at h, fun _ _ => rfl, fun _ _ h => by cases h⟩ ha h
  have e : v' = v := by
    simp only [retV, Option.some.injEq, Prod.mk.injEq, St.mk.injEq, T.n.injEq, true_and, and_true] at h1
    exact h1
  subst e
  refine (callsIn_wide.1 (h2 none)).mono fun e w' he => ?_
  obtain ⟨u, ρ', rfl, d1, _, _, _, d5⟩ := he
  refine ⟨u, ρ', n', rfl, d1, d5.os, d5.tape, d5.output, d5.size, fun b hb => d5.keep b hb ?_⟩
  rintro ⟨id, o, L, _, h, _⟩
  simp [T.get] at h
end
end CX
