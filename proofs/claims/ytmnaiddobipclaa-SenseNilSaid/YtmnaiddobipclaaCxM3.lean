/-
  CX: operations that write memory, or make some, do what the executor says (2).
-/
import Derived.Test.YtmnaiddobipclaaCxM2
namespace CX
open Go

section
variable {P : Program} {E : Env} {ρ : Nm} {n bar : Nat}

theorem setK_ok {kind : TypeDesc} {kd : TK} (hkd : KdOk P kd kind) {key : V} {ku : Value} (hkv : keyV kd key = true) (hkey : Rv ρ n key ku) {val : V} {vu : Value} (hval : Rv ρ n val vu) (c : Nat) :
    ∀ (l : List (V × V × Nat)) (es : List MapEntry) (i : Nat) {k : List (V × V × Nat) → Bool → R} {r : Ex × St}, RvM ρ n l es → setK key val l c k = some r →
      ∃ l' f, k l' f = some r ∧
        ((f = true ∧ Instr.findNow kind ku es i = some none ∧ RvM ρ n l' (es ++ [{ key := ku, val := vu, born := c }])) ∨
         (f = false ∧ ∃ j u e, Instr.findNow kind ku es i = some (some (i + j, u)) ∧ es[j]? = some e ∧ RvM ρ n l' (es.set j { e with key := ku, val := vu }) ∧ Instr.sameNow kind ku e.key = some true))
  | [], [], i, k, r, _, h => ⟨_, _, h, .inl ⟨rfl, rfl, by simp only [List.nil_append, RvM]; exact ⟨hkey, hval, trivial, trivial⟩⟩⟩
  | (q, v, b) :: l, e :: es, i, k, r, hr, h => by
    simp only [RvM] at hr
    simp only [setK] at h
    split at h
    · rename_i hc
      have hs := same_now hkd hkv hkey hr.1 hc
      refine ⟨_, _, h, .inr ⟨rfl, 0, e.val, e, by simp only [Instr.findNow, hs, Nat.add_zero], rfl, ?_, hs⟩⟩
      simp only [List.set_cons_zero, RvM]
      exact ⟨hkey, hval, hr.2.2.1, hr.2.2.2⟩
    · rename_i hc
      have hs := same_now hkd hkv hkey hr.1 hc
      obtain ⟨l', f, h1, h2⟩ := setK_ok hkd hkv hkey hval c l es (i + 1) hr.2.2.2 h
      refine ⟨_, f, h1, ?_⟩
      rcases h2 with ⟨g1, g2, g3⟩ | ⟨g1, j, u, e', g2, g3, g4, g5⟩
      · refine .inl ⟨g1, by simp only [Instr.findNow, hs]; exact g2, ?_⟩
        simp only [List.cons_append, RvM]
        exact ⟨hr.1, hr.2.1, hr.2.2.1, g3⟩
      · refine .inr ⟨g1, j + 1, u, e', by simp only [Instr.findNow, hs]; rw [g2]; congr 3; omega, by simpa using g3, ?_, g5⟩
        simp only [List.set_cons_succ, RvM]
        exact ⟨hr.1, hr.2.1, hr.2.2.1, g4⟩
    · cases h
  | [], _ :: _, _, _, _, h, _ => by simp [RvM] at h
  | _ :: _, [], _, _, _, h, _ => by simp [RvM] at h

theorem alloc_get (w : World) (ob : Obj) : (w.alloc ob).heap[w.heap.size]? = some ob := by
  show (w.heap.push ob)[w.heap.size]? = _
  simp

theorem run_setMap {w : World} {r : Nat} {es : Array MapEntry} {c : Nat} (h : w.heap[r]? = some (.map es c)) (o : Obj) : (setObj r o).run P w = .ok () { w with heap := w.heap.setIfInBounds r o } := by
  simp [setObj, Sem.run, h]

/-- An object that is no row is set. -/
theorem setObj_ok {g : T O} {w : World} (hS : HSat ρ g.get n w) {id : Nat} {o o' : O} {L : Loc} (hL : ρ id = some L) (hg : g.get id = some o) (hbar : bar ≤ id) {ob : Obj} {w' : World} (hw : w'.heap = w.heap.setIfInBounds L.b ob)
    (hio : w'.os = w.os ∧ w'.tape = w.tape ∧ w'.output = w.output) (ho : ObjOk ρ n w' id o') : HSat ρ (g.up id (some o')).get n w' ∧ Fr (Own ρ g.get bar) w (Own ρ (g.up id (some o')).get bar) w' := by
  have hid := (hS.objs id o hg).1
  have hkeep : ∀ b, b < w.heap.size → b ≠ L.b → w'.heap[b]? = w.heap[b]? := fun b _ hb => by rw [hw, Array.getElem?_setIfInBounds_ne (Ne.symm hb)]
  have hsz : w'.heap.size = w.heap.size := by rw [hw]; simp
  refine ⟨hS.upd (id0 := id) (o0 := o') (Nat.le_refl _) (agree.refl _ _) hid hL ho (fun q h => by rw [T.get_up, if_pos rfl] at h; simpa using h.symm) (fun i q h hne => ?_) hkeep hS.dom (fun i L' h => by rw [hsz]; exact hS.blk i L' h),
    Fr.upd (id0 := id) (B := L.b) hS (agree.refl _ _) hio (by omega) hkeep (.inl ⟨id, _, L, hbar, hg, hL, rfl⟩) (fun L' h => by rw [hL] at h; cases h; rfl) (fun i q h hne => by rw [T.get_up, if_neg hne] at h; exact h)⟩
  rw [T.get_up, if_neg hne] at h
  exact ⟨h, fun L' hL' => hS.sep i q id _ h hg hne L' L hL' hL⟩

theorem set_get {w : World} {b : Nat} {o0 : Obj} (h : w.heap[b]? = some o0) (ob : Obj) : (w.heap.setIfInBounds b ob)[b]? = some ob := by
  have := (Array.getElem?_eq_some_iff.1 h).1
  simp [this]

theorem evL_ok' {ev : Operand → Option V} {ρe : Operand → Value} : ∀ (l : List Operand) {k : List V → R} {r : Ex × St}, (∀ x ∈ l, ∀ v, ev x = some v → Rv ρ n v (ρe x)) → evL ev l k = some r →
    ∃ vs, k vs = some r ∧ RvL ρ n vs (l.map ρe) := fun l => evL_ok l

section
variable (hE : EnvOk E P)
include hE

/-- **What writes memory, or makes some.** -/
theorem opM_ok {g : T O} {w : World} (hS : HSat ρ g.get n w) {o : Oper} {ev : Operand → Option V} {ρe : Operand → Value} (hev : ∀ x ∈ o.op.operands, ∀ v, ev x = some v → Rv ρ n v (ρe x))
    {k : V → T O → Nat → R} {r : Ex × St} (h : opM E bar ev g n o.op k = some r) : ∃ v g' n', k v g' n' = some r ∧ MOk ρ g.get n w bar ((execOp ρe o).run P w) v g'.get n' := by
  have val : ∀ {v : V} {g' : T O} {n' : Nat} {u : Value} {ρ' : Nm} {w' : World}, (execOp ρe o).run P w = .ok (.value u) w' → Rv ρ' n' v u → HSat ρ' g'.get n' w' → agree n ρ ρ' → n ≤ n' → Fr (Own ρ g.get bar) w (Own ρ' g'.get bar) w' →
      MOk ρ g.get n w bar ((execOp ρe o).run P w) v g'.get n' := fun h1 h2 h3 h4 h5 h6 => ⟨_, _, _, _, h1, .inl rfl, h2, h3, h4, h5, h6⟩
  cases ho : o.op with
  | alloc t =>
    rw [ho] at h
    simp only [opM] at h
    split at h
    · rename_i ty hty
      have hok := hE.T _ _ hty
      obtain ⟨i, z, hi, his, _, hz, hzr, _⟩ := hok.info
      rw [CX.new, T.set_eq] at h
      have hzl := (hzr ρ n).length
      have hzc : z.cells.toList.length = ty.size := by rw [hzl, hok.zlen]
      obtain ⟨h3, h4⟩ := HSat.new (g' := (g.up n (some (.cells ty.zt ty.size))).get) (bar := bar) (bs := ty.size) (w' := w.alloc (.cells z.cells t)) (o := .cells ty.zt ty.size) hS rfl ⟨rfl, rfl, rfl⟩ (by
        simp only [ObjOk]
        refine ⟨_, z.cells, t, put_same _ _ _, alloc_get w _, by simpa using hzc, by simp, fun j hj => ?_⟩
        have hj' : j < ty.zero.length := by rw [hok.zlen]; exact hj
        obtain ⟨u, hu, hr⟩ := (hzr ρ n).get j ty.zero[j] (List.getElem?_eq_getElem hj')
        exact ⟨ty.zero[j], u, by rw [hok.zt j hj]; exact List.getElem?_eq_getElem hj', hok.zone _ (List.getElem_mem hj'), by rw [Nat.zero_add, ← Array.getElem?_toList]; exact hu, hr.ag (Nat.le_succ _) (agree_put _ _ _)⟩) (fun id => T.get_up _ _ _ _)
      refine ⟨_, _, _, h, val (u := .pointer (some ⟨w.heap.size, 0, none⟩)) ?_ ?_ h3 (agree_put _ _ _) (Nat.le_succ _) h4⟩
      · simp [execOp, ho, Instr.alloc, zeroValue, typeInfo, hi, hz, newVar, Go.newRow]
      · simp only [Rv]; exact ⟨Nat.lt_succ_self _, _, put_same _ _ _, rfl⟩
    · cases h
  | box t x =>
    rw [ho] at h hev
    simp only [opM] at h
    split at h
    · rename_i v hv
      have hr := hev x (by simp [Op.operands]) _ hv
      have hone : ∀ x ∈ flat v, one1 x = true := by
        unfold CX.newRow at h
        split at h
        · rename_i ho; exact (oneAll_iff _).1 ho
        · cases h
      have hfl := flat_cells hr hone
      obtain ⟨g', h1, h2, h3⟩ := newRow_ok (bar := bar) (ty := t) (slack := []) hS hfl h (w' := w.alloc (.cells (ρe x).cells t)) (by show w.heap.push _ = _; simp) ⟨rfl, rfl, rfl⟩
      refine ⟨_, _, _, h1, val (u := .pointer (some ⟨w.heap.size, 0, none⟩)) ?_ ?_ h2 (agree_put _ _ _) (Nat.le_succ _) h3⟩
      · simp [execOp, ho, Instr.box, newVar, Go.newRow]
      · simp only [Rv]; exact ⟨Nat.lt_succ_self _, _, put_same _ _ _, rfl⟩
    · cases h
  | buildSlice t m ps =>
    rw [ho] at h hev
    simp only [opM] at h
    split at h
    · rename_i e hk
      obtain ⟨d, hd, hkd⟩ := und_of hE hk (by simp)
      simp only [KdOk] at hkd
      subst hkd
      split at h
      · rename_i ety hety
        have hok := hE.T _ _ hety
        obtain ⟨i, z, hi, his, _, hz, hzr, _⟩ := hok.info
        split at h
        · rename_i hle h0
          have hle : m * ety.size ≤ 4096 := by simpa using hle
          have hpos : 0 < ety.size := by
            rcases Nat.eq_zero_or_pos ety.size with h1 | h1
            · rw [h1] at h0; simp at h0
            · exact h1
          obtain ⟨l', x', g1, g2, g3, g4, g5⟩ := fillA_ok (ρ := ρ) (n := n) (ρe := ρe) ps.toList (rep m ety.zero) (repV m z.cells.toList) (fun p hp v hv => hev p.2 (by simp only [Op.operands, List.mem_toArray, List.mem_map]; exact ⟨p, hp, rfl⟩) v hv) (rep_rel (hzr ρ n) m) (rep_mem hok.zone m) h
          have hzl := (hzr ρ n).length
          have hzs : z.cells.size = ety.size := by rw [← Array.length_toList, hzl, hok.zlen]
          obtain ⟨g', h1, h2, h3⟩ := newRow_ok (bar := bar) (ty := e) (slack := []) hS g2 g1 (w' := w.alloc (.cells x'.toArray e)) (by show w.heap.push _ = _; simp) ⟨rfl, rfl, rfl⟩
          refine ⟨_, _, _, h1, val (u := .slice (some ⟨w.heap.size, 0, none⟩) m m) ?_ ?_ h2 (agree_put _ _ _) (Nat.le_succ _) h3⟩
          · have hzero : ((Array.range (m * ety.size)).map (z.cells[· % z.cells.size]!)) = (repV m z.cells.toList).toArray := by
              apply Array.ext'
              have := zeroCells_eq z.cells (by omega) m
              simpa [Builtin.zeroCells, hzs] using this
            have n1 : ¬ (16777216 < m * ety.size) := by omega
            have hfill : Instr.fill (fun i => some (i * ety.size, ety.size)) ((Array.range (m * ety.size)).map (z.cells[· % z.cells.size]!)) (ps.toList.map fun p => (p.1, ρe p.2)) = some x'.toArray := by
              rw [hzero]; exact g5
            by_cases h0' : m * ety.size = 0
            · have hm0 : m = 0 := by
                rcases Nat.mul_eq_zero.1 h0' with h | h
                · exact h
                · omega
              subst hm0
              simp only [Nat.zero_mul, Array.range_zero', Array.map_empty] at hfill
              simp [execOp, ho, Instr.buildSlice, run_underlying hd, run_sizeOf' hi, his, Go.newRow, hfill, Array.range_zero']
            · simp [execOp, ho, Instr.buildSlice, run_underlying hd, run_sizeOf' hi, his, n1, h0', run_zeroValue' hi hz, Go.newRow, hfill]
          · simp only [Rv]; exact ⟨Nat.lt_succ_self _, hpos, Nat.le_refl _, _, put_same _ _ _, rfl⟩
        · cases h
      · cases h
    · cases h
  | makeMap t re =>
    rw [ho] at h hev
    simp only [opM] at h
    have fin : ∀ {r'}, CX.new g n (.map [] 0) (fun h nx' => k (.map n) h nx') = some r' → (execOp ρe o).run P w = .ok (.value (.map (some w.heap.size))) (w.alloc (.map #[] 0)) → ∃ v g' n', k v g' n' = some r' ∧ MOk ρ g.get n w bar ((execOp ρe o).run P w) v g'.get n' := by
      intro r' h hrun
      rw [CX.new, T.set_eq] at h
      obtain ⟨h3, h4⟩ := HSat.new (g' := (g.up n (some (.map [] 0))).get) (bar := bar) (bs := 0) (w' := w.alloc (.map #[] 0)) (o := .map [] 0) hS rfl ⟨rfl, rfl, rfl⟩ (by
        simp only [ObjOk]
        exact ⟨_, #[], put_same _ _ _, alloc_get w _, by simp [RvM]⟩) (fun id => T.get_up _ _ _ _)
      exact ⟨_, _, _, h, val hrun (by simp only [Rv]; exact ⟨Nat.lt_succ_self _, _, put_same _ _ _, rfl⟩) h3 (agree_put _ _ _) (Nat.le_succ _) h4⟩
    split at h
    · exact fin h (by simp [execOp, ho, Instr.makeMap])
    · rename_i kt et x hk
      obtain ⟨d, hd, hkd⟩ := und_of hE hk (by simp)
      simp only [KdOk] at hkd
      subst hkd
      split at h
      · rename_i kd m hx
        have hr := hev x (by simp [Op.operands]) _ hx
        simp only [Rv] at hr
        exact fin h (by simp [execOp, ho, hr, Instr.makeMap, run_underlying hd, asInt, asIntOf])
      · cases h
    · cases h
  | makeSlice t l c =>
    rw [ho] at h hev
    simp only [opM] at h
    split at h
    · rename_i e a b hk ha hb
      obtain ⟨d, hd, hkd⟩ := und_of hE hk (by simp)
      simp only [KdOk] at hkd
      subst hkd
      have hra := hev l (by simp [Op.operands]) _ ha
      have hrb := hev c (by simp [Op.operands]) _ hb
      simp only [Rv] at hra hrb
      split at h
      · rename_i ety hety
        have hok := hE.T _ _ hety
        obtain ⟨i, z, hi, his, hib, hz, hzr, _⟩ := hok.info
        split at h
        · rename_i hc h0
          simp only [Bool.and_eq_true, Nat.ble_eq] at hc
          obtain ⟨⟨hab, hc1⟩, hc2⟩ := hc
          have hc1 : b * ety.size ≤ 4096 := hc1
          have hc2 : b * ety.bytes ≤ 140737488355328 := hc2
          have hpos : 0 < ety.size := by
            rcases Nat.eq_zero_or_pos ety.size with h1 | h1
            · rw [h1] at h0; simp at h0
            · exact h1
          have hb4 : b ≤ 4096 := Nat.le_trans (Nat.le_mul_of_pos_right b hpos) hc1
          rw [fL_eq] at h
          have hzl := (hzr ρ n).length
          have hzs : z.cells.size = ety.size := by rw [← Array.length_toList, hzl, hok.zlen]
          obtain ⟨g', h1, h2, h3⟩ := newRow_ok (bar := bar) (ty := e) (slack := []) hS (rep_rel (hzr ρ n) b) h (w' := w.alloc (.cells (repV b z.cells.toList).toArray e)) (by show w.heap.push _ = _; simp) ⟨rfl, rfl, rfl⟩
          refine ⟨_, _, _, h1, val (u := .slice (some ⟨w.heap.size, 0, none⟩) a b) ?_ ?_ h2 (agree_put _ _ _) (Nat.le_succ _) h3⟩
          · have hrun := run_make (P := P) w t e i z hd hi hz .i64 .i64 (a : Int) (b : Int) (by omega) (by omega) (by rw [hib, ← Int.natCast_mul, Nat.mul_comm]; omega) (by omega)
            have hzero : madeCells z.cells (b * ety.size) = (repV b z.cells.toList).toArray := by
              apply Array.ext'
              have := zeroCells_eq z.cells (by omega) b
              simpa [Builtin.zeroCells, madeCells, hzs] using this
            rw [his] at hrun
            simp only [Int.toNat_natCast, hzero] at hrun
            simp only [execOp, ho, hra, hrb, Int.ofNat_eq_natCast, Sem.run_bind, hrun, Result.andThen_ok, Sem.run_pure]
          · simp only [Rv]; exact ⟨Nat.lt_succ_self _, hpos, hab, _, put_same _ _ _, rfl⟩
        · cases h
      · cases h
    · cases h
  | store t x y =>
    rw [ho] at h hev
    simp only [opM] at h
    split at h
    · rename_i ty id off v hty hx hy
      obtain ⟨i, z, hi, his, _⟩ := (hE.T _ _ hty).info
      have hrx := hev x (by simp [Op.operands]) _ hx
      have hry := hev y (by simp [Op.operands]) _ hy
      simp only [Rv] at hrx
      obtain ⟨hid, L, hL, hu⟩ := hrx
      split at h
      · rename_i hlen
        rw [Nat.beq_eq, len_eq] at hlen
        have hone : ∀ x ∈ flat v, one1 x = true := by
          unfold CX.store at h
          split at h
          · rename_i ho; exact (oneAll_iff _).1 ho
          · cases h
        have hfl := flat_cells hry hone
        obtain ⟨g', w', h1, h2, h3, h4, _⟩ := store_ok (P := P) hS hfl hL h
        have hsz := len_of_flat hfl
        refine ⟨_, _, _, h1, .skip, undef, ρ, w', ?_, .inr ⟨rfl, rfl⟩, by simp only [Rv]; exact ⟨[], by simp [RvL], rfl⟩, h2, agree.refl _ _, Nat.le_refl _, h3⟩
        simp [execOp, ho, hu, Instr.storeAt, Instr.sureAddr, storeVar, run_sizeOf' hi, his, hsz, hlen, h4]
      · cases h
    · cases h
  | mapUpdate t m key v =>
    rw [ho] at h hev
    simp only [opM] at h
    split at h
    · rename_i kt et id kv vv hk hm hkey hv
      obtain ⟨d, hd, hkd⟩ := und_of hE hk (by simp)
      simp only [KdOk] at hkd
      subst hkd
      have hrm := hev m (by simp [Op.operands]) _ hm
      have hrk := hev key (by simp [Op.operands]) _ hkey
      have hrv := hev v (by simp [Op.operands]) _ hv
      simp only [Rv] at hrm
      obtain ⟨hid, L, hL, hu⟩ := hrm
      split at h
      · rename_i l c hg hb
        simp only [Bool.and_eq_true] at hb
        obtain ⟨hbar, hkv⟩ := hb
        have hbar : bar ≤ id := by simpa [geB] using hbar
        obtain ⟨kind, hkind, hkdk⟩ : ∃ kind, P.underlying kt = some kind ∧ KdOk P (kindOf E kt) kind := by
          refine und_of hE rfl fun h0 => ?_
          rw [h0] at hkv
          simp [keyV] at hkv
        obtain ⟨_, hobj⟩ := hS.objs id _ hg
        simp only [ObjOk] at hobj
        obtain ⟨L', es, hL', hh, hmm⟩ := hobj
        rw [hL] at hL'; cases hL'
        have hck : ∀ emp, (Instr.checkKey emp 10000 kt (ρe key)).run P w = .ok () w := fun emp => run_checkKey hkind hkdk hkv emp 9999 w
        obtain ⟨l', f, h1, h2⟩ := setK_ok hkdk hkv hrk hrv c l es.toList 0 hmm h
        rcases h2 with ⟨rfl, hf, hr'⟩ | ⟨rfl, j, u, e, hf, he, hr', hsame⟩
        · simp only at h1
          rw [T.set_eq] at h1
          obtain ⟨ob, hob⟩ : ∃ ob : Obj, ob = .map (es.push { key := ρe key, val := ρe v, born := c }) (c + 1) := ⟨_, rfl⟩
          have hset := run_setMap (P := P) hh ob
          obtain ⟨q1, q2⟩ := setObj_ok (bar := bar) (o' := .map l' (Nat.succ c)) hS hL hg hbar (ob := ob) (w' := { w with heap := w.heap.setIfInBounds L.b ob }) rfl ⟨rfl, rfl, rfl⟩ (by
            simp only [ObjOk]
            exact ⟨L, es.push { key := ρe key, val := ρe v, born := c }, hL, by rw [hob]; exact set_get hh _, by simpa using hr'⟩)
          refine ⟨_, _, _, h1, .skip, undef, ρ, _, ?_, .inr ⟨rfl, rfl⟩, by simp only [Rv]; exact ⟨[], by simp [RvL], rfl⟩, q1, agree.refl _ _, Nat.le_refl _, q2⟩
          simp [execOp, ho, hu, Instr.mapUpdate, run_underlying hd, run_getMap hh, hck, Instr.findKey, run_underlying hkind, hf, ← hob, hset]
        · simp only at h1
          rw [T.set_eq] at h1
          rw [Nat.zero_add] at hf
          have he' : es[j]? = some e := by simpa using he
          have hjlt : j < es.size := (Array.getElem?_eq_some_iff.1 he').1
          obtain ⟨ob, hob⟩ : ∃ ob : Obj, ob = .map (es.modify j fun e => { e with key := ρe key, val := ρe v }) c := ⟨_, rfl⟩
          have hset := run_setMap (P := P) hh ob
          have hes : (es.modify j fun e => { e with key := ρe key, val := ρe v }).toList = es.toList.set j { e with key := ρe key, val := ρe v } := by
            apply List.ext_getElem?
            intro q
            rw [Array.getElem?_toList, Array.getElem?_modify, List.getElem?_set]
            by_cases hq : j = q
            · subst hq
              rw [if_pos rfl, if_pos rfl, if_pos (by simpa using hjlt), he']
              rfl
            · rw [if_neg hq, if_neg hq, Array.getElem?_toList]
          obtain ⟨q1, q2⟩ := setObj_ok (bar := bar) (o' := .map l' c) hS hL hg hbar (ob := ob) (w' := { w with heap := w.heap.setIfInBounds L.b ob }) rfl ⟨rfl, rfl, rfl⟩ (by
            simp only [ObjOk]
            exact ⟨L, es.modify j fun e => { e with key := ρe key, val := ρe v }, hL, by rw [hob]; exact set_get hh _, by rw [hes]; exact hr'⟩)
          have hbits : Instr.sameBits 10000 e.key (ρe key) = true := by
            revert hsame
            generalize e.key = a
            generalize ρe key = b
            intro hs
            unfold Instr.sameNow at hs
            split at hs
            · split at hs
              · simp_all [Instr.sameBits]
              · cases hs
            · simp only [Option.some.injEq] at hs
              simp only [Instr.sameBits]
              rw [beq_toListBytes] at hs ⊢
              rw [beq_iff_eq] at hs ⊢
              exact hs.symm
            · simp_all [Instr.sameBits]
            · cases hs
          refine ⟨_, _, _, h1, .skip, undef, ρ, _, ?_, .inr ⟨rfl, rfl⟩, by simp only [Rv]; exact ⟨[], by simp [RvL], rfl⟩, q1, agree.refl _ _, Nat.le_refl _, q2⟩
          simp [execOp, ho, hu, Instr.mapUpdate, run_underlying hd, run_getMap hh, hck, Instr.findKey, run_underlying hkind, hf, he', Instr.keyThatStays, hbits, ← hob, hset]
      · cases h
    · cases h
  | call c =>
    rw [ho] at h hev
    simp only [opM] at h
    split at h
    · rename_i b hc
      obtain ⟨cs, hrun⟩ := run_builtin (P := P) ho hc ρe
      obtain ⟨vs, h1, h2⟩ := evL_ok' (ρ := ρ) (n := n) (ρe := ρe) c.args.toList (fun x hx => hev x (by simp only [Op.operands, Call.operands, hc, Array.mem_append]; exact .inr (by simpa using hx))) h
      have hargs : c.args.map ρe = (c.args.toList.map ρe).toArray := by apply Array.ext'; simp
      generalize c.args.toList.map ρe = us at h2 hargs
      rw [hargs] at hrun
      cases b <;> simp only [biX] at h1 <;> try cases h1
      · -- append
        split at h1
        · rename_i x y t t' hts
          have hat : c.argTypes = #[t, t'] := by apply Array.ext'; simpa using hts
          match us, h2 with
          | [ux, uy], h2 =>
            simp only [RvL] at h2
            obtain ⟨hx, hy, _⟩ := h2
            split at h1
            · rename_i es e hes hk
              split at h1
              · rename_i ety hety
                split at h1
                · rename_i htt
                  have htt := Nat.eq_of_beq_eq_true htt
                  subst htt
                  split at h1
                  · rename_i m hm
                    rw [fN_eq] at h1
                    obtain ⟨l, xs, g1, g2, g3, g4, g5⟩ := cellsOf_ok hS hy h1
                    obtain ⟨v, g', n', q1, u, ρ', w', q2, q3, q4, q5, q6, q7⟩ := appendX_ok (bar := bar) hE hes hk hety o.type hS hx hy hm g2 g4 g3 g5 g1
                    exact ⟨v, g', n', q1, val (by rw [hrun w]; simp [Go.builtin, hat, q2]) q3 q4 q5 q6 q7⟩
                  · cases h1
                · split at h1
                  · rename_i ik kk m hk'
                    obtain ⟨d, hd, hkd⟩ := und_of hE hk' (by simp)
                    simp only [KdOk] at hkd
                    subst hkd
                    simp only [Rv] at hx hy
                    subst hx hy
                    obtain ⟨e', ety', i, z, hu, hety', hk2, hsz, hpos, hi, his, hib, hz, hzr⟩ := elem_ok hE hes
                    rw [hk] at hk2; cases hk2
                    rw [hety] at hety'; cases hety'
                    split at h1
                    · refine ⟨_, _, _, h1, val (u := .slice none 0 0) ?_ (by simp only [Rv]) hS (agree.refl _ _) (Nat.le_refl _) (Fr.refl _ _)⟩
                      rw [hrun w]
                      have hw0 : IntKind.i64.wrap 0 = 0 := by rw [IntKind.wrap_i64]; omega
                      simp [Go.builtin, hat, Builtin.append_, run_underlying hu, run_underlying hd, run_sizeOf' hi, asInt, asIntOf, typeInfo, hi, hw0]
                    · rename_i hm0
                      have hm0 : m ≠ 0 := fun e => hm0 e
                      split at h1
                      · rename_i hc2
                        simp only [Bool.and_eq_true, Nat.ble_eq, roomOk] at hc2
                        obtain ⟨hc3, hb1, hb2⟩ := hc2
                        have hb1 : m * ety.bytes ≤ 4294967296 := hb1
                        rw [fL_eq] at h1
                        unfold grown at h1
                        have hzs : z.cells.size = es := by have := (hzr ρ n).length; rw [← Array.length_toList, this, (hE.T _ _ hety).zlen, hsz]
                        have hge : m ≤ grownCap w m 0 e := grownCap_ge w m 0 e
                        have hrun2 := Lib.run_append_nil_zeros (P := P) w t t' o.type e i z kk ik hu hd hi hz m (Nat.pos_of_ne_zero hm0) (by omega) (by omega) (by rw [hib]; omega)
                        obtain ⟨g', p1, p2, p3⟩ := newRow_ok (bar := bar) (ty := e) (slack := (Builtin.zeroCells z.cells (grownCap w m 0 e - m)).toList) hS (rep_rel (hzr ρ n) m) h1
                          (w' := w.drew.alloc (.cells (Builtin.zeroCells z.cells m ++ Builtin.zeroCells z.cells (grownCap w m 0 e - m)) e)) (by
                            show w.heap.push _ = _
                            congr 2
                            apply Array.ext'
                            simp [zeroCells_eq z.cells (by omega) m]) ⟨rfl, rfl, rfl⟩
                        refine ⟨_, _, _, p1, val (by rw [hrun w]; simp [Go.builtin, hat, hrun2]; rfl) ?_ p2 (agree_put _ _ _) (Nat.le_succ _) p3⟩
                        simp only [Rv]
                        refine ⟨Nat.lt_succ_self _, hpos, _, _, 0, put_same _ _ _, rfl, hge, ?_, .inl rfl⟩
                        have hzc : (Builtin.zeroCells z.cells (grownCap w m 0 e - m)).toList.length = (grownCap w m 0 e - m) * es := by simp [Builtin.zeroCells, hzs]
                        have hzl : z.cells.toList.length = es := by simpa using hzs
                        simp only [List.length_append, repV_len, hzl, hzc, Nat.zero_add, ← Nat.add_mul]
                        congr 1; omega
                      · cases h1
                  · cases h1
              · cases h1
            · cases h1
          | [], h2 => simp [RvL] at h2
          | [_], h2 => simp [RvL] at h2
          | _ :: _ :: _ :: _, h2 => simp [RvL] at h2
        · cases h1
      · -- clear
        split at h1
        · rename_i x t hts
          have hat : c.argTypes = #[t] := by apply Array.ext'; simpa using hts
          match us, h2 with
          | [ux], h2 =>
            simp only [RvL] at h2
            obtain ⟨hx, _⟩ := h2
            have fin0 : ∀ {r'}, k (.tup []) g n = some r' → (Builtin.clear_ c.argTypes o.type #[ux]).run P w = .ok (.tuple #[]) w → ∃ v g' n', k v g' n' = some r' ∧ MOk ρ g.get n w bar ((execOp ρe o).run P w) v g'.get n' := by
              intro r' h hr
              exact ⟨_, _, _, h, val (u := .tuple #[]) (by rw [hrun w]; simp [Go.builtin, hr]) (by simp only [Rv]; exact ⟨[], by simp [RvL], rfl⟩) hS (agree.refl _ _) (Nat.le_refl _) (Fr.refl _ _)⟩
            split at h1
            · rename_i e hk
              obtain ⟨d, hd, hkd⟩ := und_of hE hk (by simp)
              simp only [KdOk] at hkd
              subst hkd
              simp only [Rv] at hx
              subst hx
              exact fin0 h1 (by simp [Builtin.clear_, hat, run_underlying hd])
            · rename_i e id es off m cap hk
              obtain ⟨d, hd, hkd⟩ := und_of hE hk (by simp)
              simp only [KdOk] at hkd
              subst hkd
              split at h1
              · have : ∃ a c', ux = .slice (some a) 0 c' := by
                  cases cap with
                  | none => simp only [Rv] at hx; obtain ⟨_, _, L, c, o, _, hu, _⟩ := hx; exact ⟨_, _, hu⟩
                  | some c => simp only [Rv] at hx; obtain ⟨_, _, _, L, _, hu⟩ := hx; exact ⟨_, _, hu⟩
                obtain ⟨a, c', rfl⟩ := this
                exact fin0 h1 (by simp [Builtin.clear_, hat, run_underlying hd])
              · rename_i hm0
                have hm0 : m ≠ 0 := fun e => hm0 e
                split at h1
                · rename_i ety hety
                  have hok := hE.T _ _ hety
                  obtain ⟨i, z, hi, his, _, hz, hzr, _⟩ := hok.info
                  split at h1
                  · rename_i hes
                    have hes := Nat.eq_of_beq_eq_true hes
                    rw [fL_eq] at h1
                    have : ∃ L c', ρ id = some L ∧ ux = .slice (some ⟨L.b, L.base + off, none⟩) m c' ∧ 0 < es := by
                      cases cap with
                      | none =>
                        simp only [Rv] at hx
                        obtain ⟨_, h0, L, c, o', hL, hu, hle, _, ho'⟩ := hx
                        have : o' = L.base + off := by
                          rcases ho' with h | h
                          · exact h
                          · omega
                        exact ⟨L, c, hL, by rw [hu, this], h0⟩
                      | some c => simp only [Rv] at hx; obtain ⟨_, h0, _, L, hL, hu⟩ := hx; exact ⟨L, c, hL, hu, h0⟩
                    obtain ⟨L, c', hL, rfl, hpos⟩ := this
                    obtain ⟨g', w', p1, p2, p3, p4, _⟩ := store_ok (P := P) hS (rep_rel (hzr ρ n) m) hL h1
                    have hzs : z.cells.size = es := by have := (hzr ρ n).length; rw [← Array.length_toList, this, hok.zlen, hes]
                    have hzc : (Builtin.zeroCells z.cells m).toList = repV m z.cells.toList := zeroCells_eq z.cells (by omega) m
                    refine ⟨_, _, _, p1, val (u := .tuple #[]) ?_ (by simp only [Rv]; exact ⟨[], by simp [RvL], rfl⟩) p2 (agree.refl _ _) (Nat.le_refl _) p3⟩
                    rw [hrun w]
                    have hcl : (Builtin.clear_ c.argTypes o.type #[.slice (some ⟨L.b, L.base + off, none⟩) m c']).run P w = .ok (.tuple #[]) w' := by
                      obtain ⟨m', rfl⟩ : ∃ m', m = m' + 1 := ⟨m - 1, by omega⟩
                      simp [Builtin.clear_, hat, run_underlying hd, run_zeroValue' hi hz, hzc, p4]
                    simp [Go.builtin, hcl]
                  · cases h1
                · cases h1
            · cases h1
          | [], h2 => simp [RvL] at h2
          | _ :: _ :: _, h2 => simp [RvL] at h2
        · cases h1
    · cases h
  | _ => rw [ho] at h; simp [opM] at h
end
end
end CX
