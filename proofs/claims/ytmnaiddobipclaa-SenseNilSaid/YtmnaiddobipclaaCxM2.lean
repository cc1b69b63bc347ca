/-
  CX: operations that write memory, or make some, do what the executor says.
-/
import Derived.Test.YtmnaiddobipclaaCxM
namespace CX
open Go

section
variable {P : Program} {E : Env} {ρ : Nm} {n bar : Nat}

theorem newRow_ok {g : T O} {w : World} (hS : HSat ρ g.get n w) {l : List V} {x : List Value} (hl : RvL ρ n l x) {k : T O → Nat → R} {r : Ex × St} (h : newRow g n l k = some r) {w' : World} {ty : TypeId} {slack : List Value}
    (hw : w'.heap = w.heap.push (.cells (x ++ slack).toArray ty)) (hio : w'.os = w.os ∧ w'.tape = w.tape ∧ w'.output = w.output) :
    ∃ g', k g' (n + 1) = some r ∧ HSat (ρ.put n ⟨w.heap.size, 0, (x ++ slack).length⟩) g'.get (n + 1) w' ∧ Fr (Own ρ g.get bar) w (Own (ρ.put n ⟨w.heap.size, 0, (x ++ slack).length⟩) g'.get bar) w' := by
  unfold newRow at h
  split at h
  · rename_i hone
    have hone := (oneAll_iff _).1 hone
    obtain ⟨t, h1, ht⟩ := wrt_ok l .e 0 h
    rw [fN_eq, new, T.set_eq] at h1
    refine ⟨_, h1, HSat.new (o := .cells t (len l)) hS hw hio ?_ (fun id => T.get_up _ _ _ _)⟩
    simp only [ObjOk]
    have hxl := hl.length
    refine ⟨_, (x ++ slack).toArray, ty, put_same _ _ _, by rw [hw]; simp, by simp, by simp [len_eq, hxl], fun i hi => ?_⟩
    rw [len_eq] at hi
    obtain ⟨u, hu, hr⟩ := hl.get i l[i] (List.getElem?_eq_getElem hi)
    refine ⟨l[i], u, ?_, hone _ (List.getElem_mem hi), ?_, hr.ag (Nat.le_succ _) (agree_put _ _ _)⟩
    · rw [ht, if_pos (by omega), Nat.sub_zero]; exact List.getElem?_eq_getElem hi
    · rw [Nat.zero_add, List.getElem?_toArray, List.getElem?_append_left (by omega)]; exact hu
  · cases h

theorem store_ok {g : T O} {w : World} (hS : HSat ρ g.get n w) {id off : Nat} {l : List V} {x : List Value} (hl : RvL ρ n l x) {L : Loc} (hL : ρ id = some L) {k : T O → R} {r : Ex × St} (h : store bar g id off l k = some r) :
    ∃ g' w', k g' = some r ∧ HSat ρ g'.get n w' ∧ Fr (Own ρ g.get bar) w (Own ρ g'.get bar) w' ∧ (storeCells ⟨L.b, L.base + off, none⟩ x).run P w = .ok () w' ∧ (∀ i o, g'.get i = some o → ∃ o', g.get i = some o') ∧
      ∃ t m cur ty, g.get id = some (.cells t m) ∧ off + l.length ≤ m ∧ L.base + m ≤ L.bs ∧ w.heap[L.b]? = some (.cells cur ty (0, 0)) ∧ cur.size = L.bs ∧ (∀ v ∈ x, v.oneCell' = true) ∧ w' = w.setRow L.b (cur.toList.take (L.base + off) ++ x ++ cur.toList.drop (L.base + off + x.length)).toArray := by
  unfold store at h
  split at h
  · rename_i t m hg hbar hone
    have hone := (oneAll_iff _).1 hone
    have hbar : bar ≤ id := by simpa [geB] using hbar
    split at h
    · rename_i hle
      rw [len_eq] at hle
      have hle : off + l.length ≤ m := by simpa using hle
      obtain ⟨t', h1, ht⟩ := wrt_ok l t off h
      rw [T.set_eq] at h1
      obtain ⟨hid, ho⟩ := hS.objs id _ hg
      simp only [ObjOk] at ho
      obtain ⟨L', cur, ty, hL', hh, hsz, hbs, hcell⟩ := ho
      rw [hL] at hL'; cases hL'
      have hxl := hl.length
      have hx1 : ∀ v ∈ x, v.oneCell' = true := by
        intro v hv
        obtain ⟨i, hi, rfl⟩ := List.getElem_of_mem hv
        have hi' : i < l.length := by omega
        obtain ⟨u, hu, hr⟩ := hl.get i l[i] (List.getElem?_eq_getElem hi')
        rw [List.getElem?_eq_getElem hi] at hu
        cases hu
        exact one1_cell hr (hone _ (List.getElem_mem hi'))
      have hrun := run_storeCells_at P L.b (L.base + off) ty x 0 cur w hh (by omega) hx1
      simp only [Nat.add_zero] at hrun
      generalize hnew : (cur.toList.take (L.base + off) ++ x ++ cur.toList.drop (L.base + off + x.length)).toArray = new at hrun
      have hnsz : new.size = cur.size := by rw [← hnew]; simp; omega
      have hget : ∀ i, new[L.base + i]? = if off ≤ i ∧ i < off + x.length then x[i - off]? else cur[L.base + i]? := by
        intro i
        rw [← hnew, List.getElem?_toArray, List.append_assoc, List.getElem?_append, List.getElem?_append]
        simp only [List.length_take, Array.length_toList]
        rw [Nat.min_eq_left (by omega)]
        by_cases c1 : i < off
        · rw [if_pos (by omega), if_neg (by omega), List.getElem?_take, if_pos (by omega)]; simp
        · rw [if_neg (by omega)]
          by_cases c2 : i < off + x.length
          · rw [if_pos (by omega), if_pos (by omega), show L.base + i - (L.base + off) = i - off by omega]
          · rw [if_neg (by omega), if_neg (by omega), List.getElem?_drop]
            simp only [Array.getElem?_toList]
            congr 1; omega
      have hkeep : ∀ b, b < w.heap.size → b ≠ L.b → (w.setRow L.b new).heap[b]? = w.heap[b]? := fun b _ hb => setRow_other w L.b b new hb
      refine ⟨_, _, h1, ?_, ?_, hrun, ?_, t, m, cur, ty, hg, hle, hbs, hh, hsz, hx1, by rw [hnew]⟩
      · refine hS.upd (id0 := id) (o0 := .cells t' m) (Nat.le_refl _) (agree.refl _ _) hid hL ?_ (fun o h => ?_) (fun i o h hne => ?_) hkeep hS.dom (fun i L h => by rw [setRow_size]; exact hS.blk i L h)
        · simp only [ObjOk]
          refine ⟨L, new, ty, hL, setRow_heap w L.b cur new ty (0, 0) hh, by rw [hnsz, hsz], hbs, fun i hi => ?_⟩
          rw [ht, hget]
          by_cases hc : off ≤ i ∧ i < off + l.length
          · rw [if_pos hc, if_pos (by omega)]
            obtain ⟨u, hu, hr⟩ := hl.get (i - off) l[i - off] (List.getElem?_eq_getElem (by omega))
            exact ⟨_, u, List.getElem?_eq_getElem (by omega), hone _ (List.getElem_mem (by omega)), hu, hr⟩
          · rw [if_neg hc, if_neg (by omega)]
            exact hcell i hi
        · rw [T.get_up, if_pos rfl] at h
          simpa using h.symm
        · rw [T.get_up, if_neg hne] at h
          exact ⟨h, fun L' hL' => hS.sep i o id _ h hg hne L' L hL' hL⟩
      · exact Fr.upd (id0 := id) (B := L.b) hS (agree.refl _ _) ⟨rfl, rfl, rfl⟩ (by simp) hkeep (.inl ⟨id, _, L, hbar, hg, hL, rfl⟩) (fun L' h => by rw [hL] at h; cases h; rfl)
          (fun i o h hne => by rw [T.get_up, if_neg hne] at h; exact h)
      · intro i o h
        rw [T.get_up] at h
        split at h
        · rename_i he; exact ⟨_, by rw [he]; exact hg⟩
        · exact ⟨o, h⟩
    · cases h
  · cases h

theorem rep_len (l : List V) : ∀ m, (rep m l).length = m * l.length
  | 0 => by simp [rep]
  | m + 1 => by simp [rep, rep_len l m, Nat.add_mul, Nat.add_comm]
theorem rep_mem {l : List V} {p : V → Prop} (h : ∀ x ∈ l, p x) : ∀ m, ∀ x ∈ rep m l, p x
  | 0, x, hx => by simp [rep] at hx
  | m + 1, x, hx => by
    simp only [rep, List.mem_append] at hx
    rcases hx with hx | hx
    · exact h x hx
    · exact rep_mem h m x hx
def repV : Nat → List Value → List Value
  | 0, _ => []
  | n + 1, l => l ++ repV n l
theorem rep_rel {l : List V} {x : List Value} (h : RvL ρ n l x) : ∀ m, RvL ρ n (rep m l) (repV m x)
  | 0 => by simp [rep, repV, RvL]
  | m + 1 => by simp only [rep, repV]; exact h.append (rep_rel h m)
theorem repV_get (l : List Value) (hl : 0 < l.length) : ∀ (m i : Nat), i < m * l.length → (repV m l)[i]? = l[i % l.length]?
  | 0, i, h => by omega
  | m + 1, i, h => by
    simp only [repV]
    rw [List.getElem?_append]
    split
    · rename_i hi; rw [Nat.mod_eq_of_lt hi]
    · rename_i hi
      rw [repV_get l hl m (i - l.length) (by rw [Nat.add_mul] at h; omega)]
      congr 1
      have h2 : i = (i - l.length) + l.length := by omega
      rw [h2, Nat.add_mod_right]
      congr 1; omega
theorem repV_len (l : List Value) : ∀ m, (repV m l).length = m * l.length
  | 0 => by simp [repV]
  | m + 1 => by simp [repV, repV_len l m, Nat.add_mul, Nat.add_comm]
theorem zeroCells_eq (z : Array Value) (hz : 0 < z.size) (m : Nat) : (Builtin.zeroCells z m).toList = repV m z.toList := by
  apply List.ext_getElem?
  intro i
  by_cases hi : i < m * z.size
  · rw [repV_get _ (by simpa using hz) _ _ (by simpa using hi)]
    simp [Builtin.zeroCells, hi]
    rw [getElem!_pos z _ (Nat.mod_lt _ hz), Array.getElem?_eq_getElem (Nat.mod_lt _ hz)]
  · rw [List.getElem?_eq_none (by simp [Builtin.zeroCells]; omega), List.getElem?_eq_none (by rw [repV_len]; simpa using hi)]

/-! ### append -/

theorem over_get (cur : Array Value) (p : Nat) (x : List Value) (h : p + x.length ≤ cur.size) (i : Nat) :
    (cur.toList.take p ++ x ++ cur.toList.drop (p + x.length)).toArray[i]? = if p ≤ i ∧ i < p + x.length then x[i - p]? else cur[i]? := by
  rw [List.getElem?_toArray, List.append_assoc, List.getElem?_append, List.getElem?_append]
  simp only [List.length_take, Array.length_toList]
  rw [Nat.min_eq_left (by omega)]
  by_cases c1 : i < p
  · rw [if_pos (by omega), if_neg (by omega), List.getElem?_take, if_pos (by omega)]; simp
  · rw [if_neg (by omega)]
    by_cases c2 : i < p + x.length
    · rw [if_pos (by omega), if_pos (by omega)]
    · rw [if_neg (by omega), if_neg (by omega), List.getElem?_drop]
      simp only [Array.getElem?_toList]
      congr 1; omega

/-- An append that may stay or move: the old name goes, a new one comes. -/
theorem moved_ok {g : T O} {w : World} (hS : HSat ρ g.get n w) {id off ln lny es m0 : Nat} {t0 : T V} {cur : Array Value} {tty : TypeId} {L : Loc} (hg : g.get id = some (.cells t0 m0)) (hbar : bar ≤ id) (hL : ρ id = some L)
    (hh : w.heap[L.b]? = some (.cells cur tty (0, 0))) (hcs : cur.size = L.bs) {olds new : List V} {oldv news : List Value} (hol : RvL ρ n olds oldv) (hnew : RvL ρ n new news) (ho1 : ∀ v ∈ olds, one1 v = true) (hn1 : ∀ v ∈ new, one1 v = true)
    (hqo : olds.length = ln * es) (hqn : new.length = lny * es) (hold : ∀ j u, oldv[j]? = some u → cur[L.base + off + j]? = some u) {t' : T V} (ht' : ∀ j, j < (ln + lny) * es → t'.get j = (olds ++ new)[j]?)
    {gg : T O} (hgg : ∀ i, gg.get i = if i = n then some (.cells t' ((ln + lny) * es)) else if i = id then none else g.get i) :
    (∀ w', w' = w.setRow L.b (cur.toList.take (L.base + off + ln * es) ++ news ++ cur.toList.drop (L.base + off + ln * es + news.length)).toArray → L.base + off + (ln + lny) * es ≤ L.bs →
      HSat (ρ.put n ⟨L.b, L.base + off, L.bs⟩) gg.get (n + 1) w' ∧ Fr (Own ρ g.get bar) w (Own (ρ.put n ⟨L.b, L.base + off, L.bs⟩) gg.get bar) w') ∧
    (∀ w' ty slack, w'.heap = w.heap.push (.cells ((oldv ++ news) ++ slack).toArray ty) → w'.os = w.os ∧ w'.tape = w.tape ∧ w'.output = w.output →
      HSat (ρ.put n ⟨w.heap.size, 0, ((oldv ++ news) ++ slack).length⟩) gg.get (n + 1) w' ∧ Fr (Own ρ g.get bar) w (Own (ρ.put n ⟨w.heap.size, 0, ((oldv ++ news) ++ slack).length⟩) gg.get bar) w') := by
  have hoL := hol.length
  have hnL := hnew.length
  have hid := (hS.objs id _ hg).1
  have hmul : (ln + lny) * es = ln * es + lny * es := Nat.add_mul _ _ _
  have hgn : ∀ i o, gg.get i = some o → i ≠ n → g.get i = some o ∧ i ≠ id := by
    intro i o h hne
    rw [hgg, if_neg hne] at h
    split at h
    · cases h
    · rename_i hi; exact ⟨h, hi⟩
  have hboth := hol.append hnew
  constructor
  · intro w' hw' hroom
    subst hw'
    have hkeep : ∀ b, b < w.heap.size → b ≠ L.b → (w.setRow L.b (cur.toList.take (L.base + off + ln * es) ++ news ++ cur.toList.drop (L.base + off + ln * es + news.length)).toArray).heap[b]? = w.heap[b]? := fun b _ hb => setRow_other w L.b b _ hb
    have hget := over_get cur (L.base + off + ln * es) news (by omega)
    refine ⟨hS.upd (id0 := n) (o0 := .cells t' ((ln + lny) * es)) (Nat.le_succ _) (agree_put _ _ _) (Nat.lt_succ_self _) (put_same _ _ _) ?_ (fun o h => by rw [hgg, if_pos rfl] at h; simpa using h.symm) (fun i o h hne => ?_) hkeep (dom_put hS.dom _) (fun i L' h => ?_),
      Fr.upd (id0 := n) (B := L.b) hS (agree_put _ _ _) ⟨rfl, rfl, rfl⟩ (by simp) hkeep (.inl ⟨id, _, L, hbar, hg, hL, rfl⟩) (fun L' h => by rw [put_same] at h; cases h; rfl) (fun i o h hne => (hgn i o h hne).1)⟩
    · simp only [ObjOk]
      refine ⟨_, _, tty, put_same _ _ _, setRow_heap w L.b cur _ tty (0, 0) hh, by simp; omega, hroom, fun i hi => ?_⟩
      have hi2 : i < (olds ++ new).length := by simp; omega
      obtain ⟨u, hu, hr⟩ := hboth.get i (olds ++ new)[i] (List.getElem?_eq_getElem hi2)
      refine ⟨_, u, by rw [ht' i hi]; exact List.getElem?_eq_getElem (by simp; omega), ?_, ?_, hr.ag (Nat.le_succ _) (agree_put _ _ _)⟩
      · rcases List.mem_append.1 (List.getElem_mem (l := olds ++ new) (n := i) (by simp; omega)) with h | h
        · exact ho1 _ h
        · exact hn1 _ h
      · show _[L.base + off + i]? = _
        rw [hget]
        rw [List.getElem?_append] at hu
        split at hu
        · rw [if_neg (by omega)]
          exact hold i u hu
        · rw [if_pos (by omega), show L.base + off + i - (L.base + off + ln * es) = i - oldv.length by omega]
          exact hu
    · obtain ⟨h1, h2⟩ := hgn i o h hne
      exact ⟨h1, fun L' hL' => hS.sep i o id _ h1 hg h2 L' L hL' hL⟩
    · rw [setRow_size]
      simp only [Nm.put] at h
      split at h
      · cases h; exact hS.blk id L hL
      · exact hS.blk i L' h
  · intro w' ty slack hw hio
    have hkeep : ∀ b, b < w.heap.size → b ≠ w.heap.size → w'.heap[b]? = w.heap[b]? := fun b hb _ => by rw [hw, Array.getElem?_push, if_neg (by omega)]
    have hsz : w'.heap.size = w.heap.size + 1 := by rw [hw]; simp
    refine ⟨hS.upd (id0 := n) (o0 := .cells t' ((ln + lny) * es)) (Nat.le_succ _) (agree_put _ _ _) (Nat.lt_succ_self _) (put_same _ _ _) ?_ (fun o h => by rw [hgg, if_pos rfl] at h; simpa using h.symm) (fun i o h hne => ?_) hkeep (dom_put hS.dom _) (fun i L' h => ?_),
      Fr.upd (id0 := n) (B := w.heap.size) hS (agree_put _ _ _) hio (by omega) hkeep (.inr (Nat.le_refl _)) (fun L' h => by rw [put_same] at h; cases h; rfl) (fun i o h hne => (hgn i o h hne).1)⟩
    · simp only [ObjOk]
      refine ⟨_, ((oldv ++ news) ++ slack).toArray, ty, put_same _ _ _, by rw [hw]; simp, by simp, by simp; omega, fun i hi => ?_⟩
      have hi2 : i < (olds ++ new).length := by simp; omega
      obtain ⟨u, hu, hr⟩ := hboth.get i (olds ++ new)[i] (List.getElem?_eq_getElem hi2)
      refine ⟨_, u, by rw [ht' i hi]; exact List.getElem?_eq_getElem (by simp; omega), ?_, ?_, hr.ag (Nat.le_succ _) (agree_put _ _ _)⟩
      · rcases List.mem_append.1 (List.getElem_mem (l := olds ++ new) (n := i) (by simp; omega)) with h | h
        · exact ho1 _ h
        · exact hn1 _ h
      · rw [Nat.zero_add, List.getElem?_toArray, List.getElem?_append_left (by simp; omega)]; exact hu
    · obtain ⟨h1, h2⟩ := hgn i o h hne
      exact ⟨h1, fun L' hL' => by have := hS.blk i L' hL'; show L'.b ≠ w.heap.size; omega⟩
    · simp only [Nm.put] at h
      split at h
      · cases h; show w.heap.size < _; omega
      · have := hS.blk i L' h; omega

theorem run_append_room_at (w : World) (t ty e : TypeId) (i : TypeInfo) (ht : P.underlying t = some (.slice e)) (hi : P.info? e = some i) (g o sLen sCap : Nat) {y : Value} {m : Nat} {news : List Value} {w' : World}
    (hlen : (Builtin.lenOf y).run P w = .ok m w) (hf : (Builtin.firstCells i.size m y).run P w = .ok news.toArray w) (hroom : sLen + m ≤ sCap)
    (hst : (storeCells ⟨g, o + sLen * i.size, none⟩ news).run P w = .ok () w') :
    (Builtin.append_ #[t, t] ty #[.slice (some ⟨g, o, none⟩) sLen sCap, y]).run P w = .ok (.slice (some ⟨g, o, none⟩) (sLen + m) sCap) w' := by
  simp [Builtin.append_, run_underlying ht, Go.sizeOf, typeInfo, hi, hlen, hroom, hf, add_at, hst]

theorem own_mono {g g' : Nat → Option O} {b : Nat} (h : ∀ i o, g' i = some o → ∃ o', g i = some o') (hb : Own ρ g' bar b) : Own ρ g bar b := by
  obtain ⟨i, o, L, h1, h2, h3, h4⟩ := hb
  obtain ⟨o', h5⟩ := h i o h2
  exact ⟨i, o', L, h1, h5, h3, h4⟩

section
variable (hE : EnvOk E P)
include hE

/-- An append onto a slice, of n elements whose cells have been read. -/
theorem appendX_ok {t es : Nat} (hes : elemSize E t = some es) {e : Nat} (hk : kindOf E t = .slice e) {ety : Ty} (hety : E.T e = some ety) (ty : TypeId) {g : T O} {w : World} (hS : HSat ρ g.get n w) {x y : V} {ux uy : Value}
    (hx : Rv ρ n x ux) (hy : Rv ρ n y uy) {m : Nat} (hm : lenV y = some m) {new : List V} {news : List Value} (hnew : RvL ρ n new news) (hnlen : new.length = m * es) (_hn1 : ∀ v ∈ new, one1 v = true)
    (hsrc : (m = 0 ∧ new = []) ∨ ∃ id off ln cap L off' c, y = .slc id es off ln cap ∧ ρ id = some L ∧ uy = .slice (some ⟨L.b, off', none⟩) ln c ∧ (ln ≠ 0 → off' = L.base + off) ∧ (∀ j u, news[j]? = some u → w.cell? ((⟨L.b, L.base + off, none⟩ : Addr).add j) = some u))
    {k : V → T O → Nat → R} {r : Ex × St} (h : appendX bar g n es ety.bytes x m new k = some r) :
    ∃ v g' n', k v g' n' = some r ∧ ∃ u ρ' w', (Builtin.append_ #[t, t] ty #[ux, uy]).run P w = .ok u w' ∧ Rv ρ' n' v u ∧ HSat ρ' g'.get n' w' ∧ agree n ρ ρ' ∧ n ≤ n' ∧ Fr (Own ρ g.get bar) w (Own ρ' g'.get bar) w' := by
  obtain ⟨e', ety', i, z, hu, hety', hk', hsz, hpos, hi, his, hib, hz, hzr⟩ := elem_ok hE hes
  rw [hk] at hk'; cases hk'
  rw [hety] at hety'; cases hety'
  have hlenof : (Builtin.lenOf uy).run P w = .ok m w := by
    match y, hm, hy with
    | .slc id es' off ln none, hm, hy =>
      simp only [lenV, Option.some.injEq] at hm
      simp only [Rv] at hy; obtain ⟨_, _, L, c, o, _, rfl, _⟩ := hy; simp [Builtin.lenOf, hm]
    | .slc id es' off ln (some c), hm, hy =>
      simp only [lenV, Option.some.injEq] at hm
      simp only [Rv] at hy; obtain ⟨_, _, _, L, _, rfl⟩ := hy; simp [Builtin.lenOf, hm]
    | .nils, hm, hy =>
      simp only [lenV, Option.some.injEq] at hm
      simp only [Rv] at hy; subst hy; simp [Builtin.lenOf, hm]
  have hnl := hnew.length
  -- what is read of the source, in a world with the same heap
  have hfirst : ∀ w2 : World, w2.heap = w.heap → (Builtin.firstCells i.size m uy).run P w2 = .ok news.toArray w2 := by
    intro w2 hw2
    have hcell : ∀ a, w2.cell? a = w.cell? a := fun a => by simp [World.cell?, hw2]
    rcases hsrc with ⟨h0, hnil⟩ | ⟨id, off, ln, cap, L, off', c, rfl, hL, rfl, hoff, hc⟩
    · have : news = [] := by rw [hnil] at hnl; exact List.length_eq_zero_iff.1 hnl
      subst this
      subst h0
      match y, hm, hy with
      | .slc id es' off ln none, hm, hy =>
        simp only [Rv] at hy; obtain ⟨_, _, L, c, o, _, rfl, _⟩ := hy; simp [Builtin.firstCells, loadCells, loadCellsFrom]
      | .slc id es' off ln (some c), hm, hy =>
        simp only [Rv] at hy; obtain ⟨_, _, _, L, _, rfl⟩ := hy; simp [Builtin.firstCells, loadCells, loadCellsFrom]
      | .nils, hm, hy =>
        simp only [Rv] at hy; subst hy; simp [Builtin.firstCells]
    · simp only [lenV, Option.some.injEq] at hm
      subst hm
      by_cases h0 : ln = 0
      · have : news = [] := by apply List.length_eq_zero_iff.1; rw [hnl, hnlen, h0, Nat.zero_mul]
        rw [this, h0]
        simp [Builtin.firstCells, loadCells, loadCellsFrom]
      · rw [hoff h0]
        exact run_firstCells_some (P := P) w2 i.size ln _ ln c news (by rw [hnl, hnlen, his]) (fun j v hj => by rw [hcell]; exact hc j v hj)
  -- a new array
  have fresh : ∀ (olds : List V) (oldv : List Value) (q : Nat) (need old : Nat) {kk : T O → Nat → R}, RvL ρ n olds oldv → (∀ v ∈ olds, one1 v = true) → olds.length = q * es → need = q + m → 0 < need → old < need → newRow g n (olds ++ new) kk = some r →
      ∀ u, u = Value.slice (some ⟨w.heap.size, 0, none⟩) need (grownCap w need old e) →
      ∃ g' ρ' w', kk g' (n + 1) = some r ∧ w' = w.drew.alloc (.cells (oldv.toArray ++ news.toArray ++ Builtin.zeroCells z.cells (grownCap w need old e - need)) e) ∧
        Rv ρ' (n + 1) (.slc n es 0 need none) u ∧ HSat ρ' g'.get (n + 1) w' ∧ agree n ρ ρ' ∧ Fr (Own ρ g.get bar) w (Own ρ' g'.get bar) w' := by
    intro olds oldv q need old kk hol h1 hql hneed hpos' hold hrow u hu
    have hge : need ≤ grownCap w need old e := grownCap_ge w need old e
    have hzs : z.cells.size = es := by have := (hzr ρ n).length; rw [← Array.length_toList, this, (hE.T _ _ hety).zlen, hsz]
    have hoL := hol.length
    obtain ⟨g', h2, h3, h4⟩ := newRow_ok (bar := bar) (ty := e) (slack := (Builtin.zeroCells z.cells (grownCap w need old e - need)).toList) hS (hol.append hnew) hrow
      (w' := w.drew.alloc (.cells (oldv.toArray ++ news.toArray ++ Builtin.zeroCells z.cells (grownCap w need old e - need)) e)) (by
        show w.heap.push _ = _
        congr 2
        apply Array.ext'; simp) ⟨rfl, rfl, rfl⟩
    refine ⟨g', _, _, h2, rfl, ?_, h3, agree_put _ _ _, h4⟩
    subst hu
    simp only [Rv]
    refine ⟨Nat.lt_succ_self _, hpos, _, _, 0, put_same _ _ _, rfl, hge, ?_, .inl rfl⟩
    have hzc : (Builtin.zeroCells z.cells (grownCap w need old e - need)).toList.length = (grownCap w need old e - need) * es := by simp [Builtin.zeroCells, hzs]
    simp only [List.length_append, hoL, hql, hnl, hnlen, hzc, Nat.zero_add, ← Nat.add_mul]
    congr 1; omega
  unfold appendX at h
  split at h
  · -- nothing
    have hnil : news = [] := by apply List.length_eq_zero_iff.1; rw [hnl, hnlen, Nat.zero_mul]
    have hsame : ∀ a ln c, ux = .slice a ln c → ln ≤ c → (Builtin.append_ #[t, t] ty #[ux, uy]).run P w = .ok ux w := by
      intro a ln c hux hle
      have hf := hfirst w rfl
      rw [hnil] at hf
      subst hux
      cases a <;> simp [Builtin.append_, run_underlying hu, run_sizeOf' hi, hlenof, hle, hf, storeCells]
    split at h
    · simp only [Rv] at hx
      exact ⟨_, _, _, h, ux, ρ, w, hsame none 0 0 hx (Nat.le_refl _), by simp only [Rv]; exact hx, hS, agree.refl _ _, Nat.le_refl _, Fr.refl _ _⟩
    · rename_i id es' off ln cap
      split at h
      · have hx0 := hx
        refine ⟨_, _, _, h, ux, ρ, w, ?_, hx0, hS, agree.refl _ _, Nat.le_refl _, Fr.refl _ _⟩
        cases cap with
        | none => simp only [Rv] at hx; obtain ⟨_, _, L, c, o, _, hux, hle, _⟩ := hx; exact hsame _ _ _ hux hle
        | some c => simp only [Rv] at hx; obtain ⟨_, _, hle, L, _, hux⟩ := hx; exact hsame _ _ _ hux hle
      · cases h
    · cases h
  · rename_i hm0
    have hm0 : m ≠ 0 := fun e => hm0 e
    obtain ⟨idy, offy, lny, capy, Ly, offy', cy, hyv, hLy, huy, hoffy, hcy⟩ := hsrc.resolve_left (fun h => hm0 h.1)
    subst hyv
    simp only [lenV, Option.some.injEq] at hm
    subst hm
    have hoffy := hoffy hm0
    subst hoffy
    split at h
    · -- onto nil
      simp only [Rv] at hx
      subst hx
      split at h
      · rename_i hb
        simp only [roomOk, Bool.and_eq_true, Nat.ble_eq] at hb
        have hb1 : lny * ety.bytes ≤ 4294967296 := hb.1
        have hpos' : 0 < lny := Nat.pos_of_ne_zero hm0
        unfold grown at h
        obtain ⟨g', ρ', w', h1, h2, h3, h4, h5, h6⟩ := fresh [] [] 0 lny 0 (by simp [RvL]) (by simp) (by simp) (Nat.zero_add _).symm hpos' hpos' (by simpa using h) _ rfl
        refine ⟨_, g', n + 1, h1, _, ρ', w', ?_, h3, h4, h5, Nat.le_succ _, h6⟩
        have hln63 : (lny : Int) ≤ 9223372036854775807 := by have := hb.2; omega
        have h48 : lny * i.bytes ≤ 281474976710656 := by rw [hib]; omega
        have := run_append_nil (P := P) w t ty e i z hu hi hz _ lny cy news (by rw [hnl, hnlen, his]) hcy hpos' hln63 h48
        rw [h2, huy]
        simpa using this
      · cases h
    · rename_i id es' off ln cap
      split at h
      · cases h
      · rename_i hc
        simp only [Bool.and_eq_true, Nat.beq_eq, roomOk, Nat.ble_eq] at hc
        obtain ⟨hee, hb, hb2⟩ := hc
        have hee : es = es' := hee
        subst hee
        have hb : (ln + lny) * ety.bytes ≤ 4294967296 := hb
        have hb2 : ln + lny ≤ 4294967296 := hb2
        have h63 : ((ln + lny : Nat) : Int) ≤ 9223372036854775807 := by omega
        have hpos' : 0 < ln + lny := Nat.lt_of_lt_of_le (Nat.pos_of_ne_zero hm0) (Nat.le_add_left _ _)
        have hlt' : ln < ln + lny := Nat.lt_add_of_pos_right (Nat.pos_of_ne_zero hm0)
        have hfit : ∀ c, c < ln + lny → Builtin.nextslicecap (ln + lny) c * i.bytes ≤ 281474976710656 := fun c hc => growslice_fits hc (by rw [hib]; omega)
        -- a new array behind the old elements
        have grows : ∀ {L : Loc} {a : Addr} {c : Nat} {olds : List V} {oldv : List Value} {kk : T O → Nat → R}, ux = .slice (some a) ln c → c < ln + lny → RvL ρ n olds oldv → (∀ v ∈ olds, one1 v = true) → olds.length = ln * es →
            (∀ j v, oldv[j]? = some v → w.cell? (a.add j) = some v) → newRow g n (olds ++ new) kk = some r →
            ∃ g' ρ' w' u, kk g' (n + 1) = some r ∧ (Builtin.append_ #[t, t] ty #[ux, uy]).run P w = .ok u w' ∧ Rv ρ' (n + 1) (.slc n es 0 (ln + lny) none) u ∧ HSat ρ' g'.get (n + 1) w' ∧ agree n ρ ρ' ∧ Fr (Own ρ g.get bar) w (Own ρ' g'.get bar) w' := by
          intro L a c olds oldv kk hux hc hol h1 hql holc hrow
          obtain ⟨g', ρ', w', g1, g2, g3, g4, g5, g6⟩ := fresh olds oldv ln (ln + lny) c hol h1 hql rfl hpos' hc hrow _ rfl
          have hoL := hol.length
          have := run_append_grow (P := P) w t ty e i z hu hi hz a ln c oldv (by rw [hoL, hql, his]) holc _ lny cy news (by rw [hnl, hnlen, his]) hcy hc h63 (hfit c hc)
          exact ⟨g', ρ', w', _, g1, by rw [hux, huy, g2]; exact this, g3, g4, g5, g6⟩
        -- into the room that there is
        have fits : ∀ {L : Loc} {c : Nat} {kk : T O → R}, ρ id = some L → ux = .slice (some ⟨L.b, L.base + off, none⟩) ln c → ln + lny ≤ c → store bar g id (off + ln * es) new kk = some r →
            ∃ g' w', kk g' = some r ∧ (Builtin.append_ #[t, t] ty #[ux, uy]).run P w = .ok (.slice (some ⟨L.b, L.base + off, none⟩) (ln + lny) c) w' ∧ HSat ρ g'.get n w' ∧ Fr (Own ρ g.get bar) w (Own ρ g'.get bar) w' := by
          intro L c kk hL hux hroom hst
          obtain ⟨g', w', g1, g2, g3, g4, _⟩ := store_ok hS hnew hL hst
          refine ⟨g', w', g1, ?_, g2, g3⟩
          rw [hux]
          exact run_append_room_at w t ty e i hu hi L.b (L.base + off) ln c hlenof (hfirst w rfl) hroom (by rw [his, Nat.add_assoc]; exact g4)
        cases cap with
        | some c =>
          simp only [Rv] at hx
          obtain ⟨hid, _, hlnc, L, hL, hux⟩ := hx
          simp only at h
          split at h
          · rename_i hroom
            have hroom : ln + lny ≤ c := by simpa using hroom
            obtain ⟨g', w', g1, g2, g3, g4⟩ := fits hL hux hroom h
            rw [fN_eq] at g1
            refine ⟨_, g', n, g1, _, ρ, w', g2, ?_, g3, agree.refl _ _, Nat.le_refl _, g4⟩
            simp only [Rv]
            exact ⟨hid, hpos, hroom, L, hL, rfl⟩
          · rename_i hroom
            have hroom : c < ln + lny := by
              have : ¬ ln + lny ≤ c := fun hh => by rw [← Nat.ble_eq] at hh; exact absurd (hh.symm.trans hroom) (by simp)
              omega
            obtain ⟨olds, oldv, q1, q2, q3, q4, q5⟩ := cellsOf_ok hS (y := .slc id es off ln (some c)) (u := ux) (by simp only [Rv]; exact ⟨hid, hpos, hlnc, L, hL, hux⟩) h
            rw [fL_eq, fN_eq] at q1
            unfold grown at q1
            have holc : ∀ j v, oldv[j]? = some v → w.cell? ((⟨L.b, L.base + off, none⟩ : Addr).add j) = some v := by
              rcases q5 with ⟨h0, hnil⟩ | ⟨id', off', ln', cap', L', o', c', heq, hL', hu', ho', hcell⟩
              · have := q2.length; rw [hnil] at this; have := List.length_eq_zero_iff.1 this; subst this
                intro j v hj; simp at hj
              · cases heq
                rw [hL] at hL'; cases hL'
                exact hcell
            obtain ⟨g', ρ', w', u, g1, g2, g3, g4, g5, g6⟩ := grows (L := L) hux hroom q2 q3 q4 holc q1
            exact ⟨_, g', n + 1, g1, u, ρ', w', g2, g3, g4, g5, Nat.le_succ _, g6⟩
        | none =>
          have hx0 := hx
          simp only [Rv] at hx
          obtain ⟨hid, _, L, c, off', hL, hux, hlnc, hbs, hoff⟩ := hx
          simp only at h
          split at h
          · rename_i tt mm hg hbar hone
            obtain ⟨_, hob⟩ := hS.objs id _ hg
            simp only [ObjOk] at hob
            obtain ⟨L', cur, tty, hL', hh, hcs, hmm, hcell⟩ := hob
            rw [hL] at hL'; cases hL'
            split at h
            · rename_i hfit'
              have hfit' : off + (ln + lny) * es ≤ mm := by simpa using hfit'
              have hroom : ln + lny ≤ c := by
                have h1 : (ln + lny) * es ≤ c * es := by omega
                exact Nat.le_of_mul_le_mul_right h1 hpos
              have hoff' : off' = L.base + off := by
                rcases hoff with h | h
                · exact h
                · omega
              subst hoff'
              obtain ⟨g', w', g1, g2, g3, g4⟩ := fits hL hux hroom h
              rw [fN_eq] at g1
              refine ⟨_, g', n, g1, _, ρ, w', g2, ?_, g3, agree.refl _ _, Nat.le_refl _, g4⟩
              simp only [Rv]
              exact ⟨hid, hpos, L, c, _, hL, rfl, hroom, hbs, .inl rfl⟩
            · split at h
              · cases h
              · rename_i hle
                have hle : off + ln * es ≤ mm := by simpa using hle
                have hbar' : bar ≤ id := by simpa [geB] using hbar
                have hn1' := (oneAll_iff _).1 hone
                -- what was there
                have old : ∃ olds oldv, RvL ρ n olds oldv ∧ (∀ v ∈ olds, one1 v = true) ∧ olds.length = ln * es ∧ (∀ j u, oldv[j]? = some u → cur[L.base + off + j]? = some u) ∧
                    (∀ j u, oldv[j]? = some u → w.cell? ((⟨L.b, L.base + off, none⟩ : Addr).add j) = some u) ∧
                    ∃ t' gg, (∀ j, j < (ln + lny) * es → t'.get j = (olds ++ new)[j]?) ∧ (∀ i, gg.get i = if i = n then some (.cells t' ((ln + lny) * es)) else if i = id then none else g.get i) ∧
                      k (.slc n es 0 (ln + lny) none) gg (n + 1) = some r := by
                  obtain ⟨olds, oldv, L2, cur2, ty2, p2, p3, p4, p5, p6, _, _, p8, p9, p10⟩ := cells_list hS hg hle
                  rw [hL] at p5; cases p5
                  rw [hh] at p6; cases p6
                  have hmul : (ln + lny) * es = ln * es + lny * es := Nat.add_mul _ _ _
                  refine ⟨olds, oldv, p3, p4, p2, p9, p10, ?_⟩
                  split at h
                  · -- from the head on
                    obtain ⟨t', q1, q2⟩ := wrt_ok _ _ _ h
                    rw [fN_eq, fN_eq, T.set_eq, T.set_eq] at q1
                    have hm1 : Nat.mul ln es = ln * es := rfl
                    refine ⟨t', _, fun j hj => ?_, fun i => ?_, q1⟩
                    · rw [q2, List.getElem?_append, p2, hm1]
                      by_cases hj2 : j < ln * es
                      · rw [if_neg (by omega), if_pos hj2]
                        have := p8 j hj2
                        rwa [Nat.zero_add] at this
                      · rw [if_neg hj2, if_pos (by omega)]
                    · rw [T.get_up, T.get_up]; rfl
                  · rw [show Nat.mul ln es = olds.length from p2.symm, rd_eq olds off _ (fun j hj => p8 j (by omega)), fL_eq, fN_eq, T.set_eq] at h
                    unfold newRow at h
                    split at h
                    · obtain ⟨t', q1, q2⟩ := wrt_ok _ _ _ h
                      rw [fN_eq, CX.new, T.set_eq, len_eq] at q1
                      refine ⟨t', _, fun j hj => ?_, fun i => ?_, q1⟩
                      · rw [q2, if_pos (by simp; omega), Nat.sub_zero]
                      · rw [T.get_up, T.get_up]
                        have : (olds ++ new).length = (ln + lny) * es := by simp; omega
                        rw [this]
                    · cases h
                obtain ⟨olds, oldv, o1, o2, o3, o4, o5, t', gg, o6, o7, o8⟩ := old
                have hoL := o1.length
                obtain ⟨m1, m2⟩ := moved_ok (bar := bar) hS hg hbar' hL hh hcs o1 hnew o2 hn1' o3 hnlen o4 o6 o7
                by_cases hroom : ln + lny ≤ c
                · have hoff' : off' = L.base + off := by
                    rcases hoff with h | h
                    · exact h
                    · omega
                  subst hoff'
                  have hfitc : L.base + off + (ln + lny) * es ≤ L.bs := by
                    have : (ln + lny) * es ≤ c * es := Nat.mul_le_mul_right _ hroom
                    omega
                  obtain ⟨m3, m4⟩ := m1 _ rfl hfitc
                  have hx1 : ∀ v ∈ news, v.oneCell' = true := by
                    intro v hv
                    obtain ⟨i, hi, rfl⟩ := List.getElem_of_mem hv
                    have hi' : i < new.length := by omega
                    obtain ⟨u, hu, hr⟩ := hnew.get i new[i] (List.getElem?_eq_getElem hi')
                    rw [List.getElem?_eq_getElem hi] at hu
                    cases hu
                    exact one1_cell hr (hn1' _ (List.getElem_mem hi'))
                  have hst := run_storeCells_at P L.b (L.base + off + ln * es) tty news 0 cur w hh (by rw [Nat.add_mul] at hfitc; omega) hx1
                  simp only [Nat.add_zero] at hst
                  refine ⟨_, gg, n + 1, o8, .slice (some ⟨L.b, L.base + off, none⟩) (ln + lny) c, _, _, ?_, ?_, m3, agree_put _ _ _, Nat.le_succ _, m4⟩
                  · rw [hux]
                    exact run_append_room_at w t ty e i hu hi L.b (L.base + off) ln c hlenof (hfirst w rfl) hroom (by rw [his]; exact hst)
                  · simp only [Rv]
                    exact ⟨Nat.lt_succ_self _, hpos, _, c, _, put_same _ _ _, rfl, hroom, by show L.base + off + 0 + c * es = L.bs; omega, .inl rfl⟩
                · have hc : c < ln + lny := Nat.lt_of_not_le hroom
                  have hge : ln + lny ≤ grownCap w (ln + lny) c e := grownCap_ge w (ln + lny) c e
                  have hzs : z.cells.size = es := by have := (hzr ρ n).length; rw [← Array.length_toList, this, (hE.T _ _ hety).zlen, hsz]
                  have hzc : (Builtin.zeroCells z.cells (grownCap w (ln + lny) c e - (ln + lny))).toList.length = (grownCap w (ln + lny) c e - (ln + lny)) * es := by simp [Builtin.zeroCells, hzs]
                  obtain ⟨m3, m4⟩ := m2 (w.drew.alloc (.cells (oldv.toArray ++ news.toArray ++ Builtin.zeroCells z.cells (grownCap w (ln + lny) c e - (ln + lny))) e)) e (Builtin.zeroCells z.cells (grownCap w (ln + lny) c e - (ln + lny))).toList (by
                    show w.heap.push _ = _
                    congr 2
                    apply Array.ext'; simp) ⟨rfl, rfl, rfl⟩
                  have holc : ∀ j v, oldv[j]? = some v → w.cell? ((⟨L.b, off', none⟩ : Addr).add j) = some v := by
                    rcases hoff with h | h
                    · rw [h]; exact o5
                    · have : oldv = [] := List.length_eq_zero_iff.1 (by rw [hoL, o3, show ln = 0 by omega, Nat.zero_mul])
                      subst this
                      intro j v hj; simp at hj
                  have hrun := run_append_grow (P := P) w t ty e i z hu hi hz ⟨L.b, off', none⟩ ln c oldv (by rw [hoL, o3, his]) holc _ lny cy news (by rw [hnl, hnlen, his]) hcy hc h63 (hfit c hc)
                  refine ⟨_, gg, n + 1, o8, _, _, _, by rw [hux, huy]; exact hrun, ?_, m3, agree_put _ _ _, Nat.le_succ _, m4⟩
                  simp only [Rv]
                  refine ⟨Nat.lt_succ_self _, hpos, _, _, 0, put_same _ _ _, rfl, hge, ?_, .inl rfl⟩
                  simp only [List.length_append, hoL, o3, hnl, hnlen, hzc, Nat.zero_add, ← Nat.add_mul]
                  congr 1; omega
          · cases h
    · cases h
end
end
end CX
