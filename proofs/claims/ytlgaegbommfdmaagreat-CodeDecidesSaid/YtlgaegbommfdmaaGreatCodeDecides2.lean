/-
  Texts of the executors: CxM2, CxM3, CxCall, CxOp, CxSeq, CxDraw, CxDraw2, CxDraw3, CxDraw4, CxDraw5.
-/
import Derived.Test.YtlgaegbommfdmaaGreatCodeDecides1
import Derived.RangeFuncRecord
import Derived.RangeFuncCalls
set_option linter.all false
namespace CX
open Go

section
variable {P : Program} {E : Env} {ρ : Nm} {n bar : Nat}

theorem newRow_ok {g : T O} {w : World} (hS : HSat ρ g.get n w) {l : List V} {x : List Value} (hl : RvL ρ n l x) {k : T O → Nat → R} {r : Ex × St} (h : newRow g n l k = some r) {w' : World} {ty : TypeId} {slack : List Value}
    (hw : w'.heap = w.heap.push (.cells (x ++ slack).toArray ty)) (hio : w'.os = w.os ∧ w'.tape = w.tape ∧ w'.output = w.output) :
    ∃ g', k g' (n + 1) = some r ∧ HSat (ρ.put n ⟨w.heap.size, 0, (x ++ slack).length⟩) g'.get (n + 1) w' ∧ Fr (Own ρ g.get bar) w (Own (ρ.put n ⟨w.heap.size, 0, (x ++ slack).length⟩) g'.get bar) w' := by
  unfold newRow at h
  split at h
  · rename_i hone
    have hone := (oneAll_iff _).1 hone
    obtain ⟨t, h1, ht⟩ := wrt_ok l .e 0 h
    rw [fN_eq, new, T.set_eq] at h1
    refine ⟨_, h1, HSat.new (o := .cells t (len l)) hS hw hio ?_ (fun id => T.get_up _ _ _ _)⟩
    simp only [ObjOk]
    have hxl := hl.length
    refine ⟨_, (x ++ slack).toArray, ty, put_same _ _ _, by rw [hw]; simp, by simp, by simp [len_eq, hxl], fun i hi => ?_⟩
    rw [len_eq] at hi
    obtain ⟨u, hu, hr⟩ := hl.get i l[i] (List.getElem?_eq_getElem hi)
    refine ⟨l[i], u, ?_, hone _ (List.getElem_mem hi), ?_, hr.ag (Nat.le_succ _) (agree_put _ _ _)⟩
    · rw [ht, if_pos (by omega), Nat.sub_zero]; exact List.getElem?_eq_getElem hi
    · rw [Nat.zero_add, List.getElem?_toArray, List.getElem?_append_left (by omega)]; exact hu
  · cases h

theorem store_ok {g : T O} {w : World} (hS : HSat ρ g.get n w) {id off : Nat} {l : List V} {x : List Value} (hl : RvL ρ n l x) {L : Loc} (hL : ρ id = some L) {k : T O → R} {r : Ex × St} (h : store bar g id off l k = some r) :
    ∃ g' w', k g' = some r ∧ HSat ρ g'.get n w' ∧ Fr (Own ρ g.get bar) w (Own ρ g'.get bar) w' ∧ (storeCells ⟨L.b, L.base + off, none⟩ x).run P w = .ok () w' ∧ (∀ i o, g'.get i = some o → ∃ o', g.get i = some o') ∧
      ∃ t m cur ty, g.get id = some (.cells t m) ∧ off + l.length ≤ m ∧ L.base + m ≤ L.bs ∧ w.heap[L.b]? = some (.cells cur ty (0, 0)) ∧ cur.size = L.bs ∧ (∀ v ∈ x, v.oneCell' = true) ∧ w' = w.setRow L.b (cur.toList.take (L.base + off) ++ x ++ cur.toList.drop (L.base + off + x.length)).toArray := by
  unfold store at h
  split at h
  · rename_i t m hg hbar hone
    have hone := (oneAll_iff _).1 hone
    have hbar : bar ≤ id := by simpa [geB] using hbar
    split at h
    · rename_i hle
      rw [len_eq] at hle
      have hle : off + l.length ≤ m := by simpa using hle
      obtain ⟨t', h1, ht⟩ := wrt_ok l t off h
      rw [T.set_eq] at h1
      obtain ⟨hid, ho⟩ := hS.objs id _ hg
      simp only [ObjOk] at ho
      obtain ⟨L', cur, ty, hL', hh, hsz, hbs, hcell⟩ := ho
      rw [hL] at hL'; cases hL'
      have hxl := hl.length
      have hx1 : ∀ v ∈ x, v.oneCell' = true := by
        intro v hv
        obtain ⟨i, hi, rfl⟩ := List.getElem_of_mem hv
        have hi' : i < l.length := by omega
        obtain ⟨u, hu, hr⟩ := hl.get i l[i] (List.getElem?_eq_getElem hi')
        rw [List.getElem?_eq_getElem hi] at hu
        cases hu
        exact one1_cell hr (hone _ (List.getElem_mem hi'))
      have hrun := run_storeCells_at P L.b (L.base + off) ty x 0 cur w hh (by omega) hx1
      simp only [Nat.add_zero] at hrun
      generalize hnew : (cur.toList.take (L.base + off) ++ x ++ cur.toList.drop (L.base + off + x.length)).toArray = new at hrun
      have hnsz : new.size = cur.size := by rw [← hnew]; simp; omega
      have hget : ∀ i, new[L.base + i]? = if off ≤ i ∧ i < off + x.length then x[i - off]? else cur[L.base + i]? := by
        intro i
        rw [← hnew, List.getElem?_toArray, List.append_assoc, List.getElem?_append, List.getElem?_append]
        simp only [List.length_take, Array.length_toList]
        rw [Nat.min_eq_left (by omega)]
        by_cases c1 : i < off
        · rw [if_pos (by omega), if_neg (by omega), List.getElem?_take, if_pos (by omega)]; simp
        · rw [if_neg (by omega)]
          by_cases c2 : i < off + x.length
          · rw [if_pos (by omega), if_pos (by omega), show L.base + i - (L.base + off) = i - off by omega]
          · rw [if_neg (by omega), if_neg (by omega), List.getElem?_drop]
            simp only [Array.getElem?_toList]
            congr 1; omega
      have hkeep : ∀ b, b < w.heap.size → b ≠ L.b → (w.setRow L.b new).heap[b]? = w.heap[b]? := fun b _ hb => setRow_other w L.b b new hb
      refine ⟨_, _, h1, ?_, ?_, hrun, ?_, t, m, cur, ty, hg, hle, hbs, hh, hsz, hx1, by rw [hnew]⟩
      · refine hS.upd (id0 := id) (o0 := .cells t' m) (Nat.le_refl _) (agree.refl _ _) hid hL ?_ (fun o h => ?_) (fun i o h hne => ?_) hkeep hS.dom (fun i L h => by rw [setRow_size]; exact hS.blk i L h)
        · simp only [ObjOk]
          refine ⟨L, new, ty, hL, setRow_heap w L.b cur new ty (0, 0) hh, by rw [hnsz, hsz], hbs, fun i hi => ?_⟩
          rw [ht, hget]
          by_cases hc : off ≤ i ∧ i < off + l.length
          · rw [if_pos hc, if_pos (by omega)]
            obtain ⟨u, hu, hr⟩ := hl.get (i - off) l[i - off] (List.getElem?_eq_getElem (by omega))
            exact ⟨_, u, List.getElem?_eq_getElem (by omega), hone _ (List.getElem_mem (by omega)), hu, hr⟩
          · rw [if_neg hc, if_neg (by omega)]
            exact hcell i hi
        · rw [T.get_up, if_pos rfl] at h
          simpa using h.symm
        · rw [T.get_up, if_neg hne] at h
          exact ⟨h, fun L' hL' => hS.sep i o id _ h hg hne L' L hL' hL⟩
      · exact Fr.upd (id0 := id) (B := L.b) hS (agree.refl _ _) ⟨rfl, rfl, rfl⟩ (by simp) hkeep (.inl ⟨id, _, L, hbar, hg, hL, rfl⟩) (fun L' h => by rw [hL] at h; cases h; rfl)
          (fun i o h hne => by rw [T.get_up, if_neg hne] at h; exact h)
      · intro i o h
        rw [T.get_up] at h
        split at h
        · rename_i he; exact ⟨_, by rw [he]; exact hg⟩
        · exact ⟨o, h⟩
    · cases h
  · cases h

theorem rep_len (l : List V) : ∀ m, (rep m l).length = m * l.length
  | 0 => by simp [rep]
  | m + 1 => by simp [rep, rep_len l m, Nat.add_mul, Nat.add_comm]
theorem rep_mem {l : List V} {p : V → Prop} (h : ∀ x ∈ l, p x) : ∀ m, ∀ x ∈ rep m l, p x
  | 0, x, hx => by simp [rep] at hx
  | m + 1, x, hx => by
    simp only [rep, List.mem_append] at hx
    rcases hx with hx | hx
    · exact h x hx
    · exact rep_mem h m x hx
def repV : Nat → List Value → List Value
  | 0, _ => []
  | n + 1, l => l ++ repV n l
theorem rep_rel {l : List V} {x : List Value} (h : RvL ρ n l x) : ∀ m, RvL ρ n (rep m l) (repV m x)
  | 0 => by simp [rep, repV, RvL]
  | m + 1 => by simp only [rep, repV]; exact h.append (rep_rel h m)
theorem repV_get (l : List Value) (hl : 0 < l.length) : ∀ (m i : Nat), i < m * l.length → (repV m l)[i]? = l[i % l.length]?
  | 0, i, h => by omega
  | m + 1, i, h => by
    simp only [repV]
    rw [List.getElem?_append]
    split
    · rename_i hi; rw [Nat.mod_eq_of_lt hi]
    · rename_i hi
      rw [repV_get l hl m (i - l.length) (by rw [Nat.add_mul] at h; omega)]
      congr 1
      have h2 : i = (i - l.length) + l.length := by omega
      rw [h2, Nat.add_mod_right]
      congr 1; omega
theorem repV_len (l : List Value) : ∀ m, (repV m l).length = m * l.length
  | 0 => by simp [repV]
  | m + 1 => by simp [repV, repV_len l m, Nat.add_mul, Nat.add_comm]
theorem zeroCells_eq (z : Array Value) (hz : 0 < z.size) (m : Nat) : (Builtin.zeroCells z m).toList = repV m z.toList := by
  apply List.ext_getElem?
  intro i
  by_cases hi : i < m * z.size
  · rw [repV_get _ (by simpa using hz) _ _ (by simpa using hi)]
    simp [Builtin.zeroCells, hi]
    rw [getElem!_pos z _ (Nat.mod_lt _ hz), Array.getElem?_eq_getElem (Nat.mod_lt _ hz)]
  · rw [List.getElem?_eq_none (by simp [Builtin.zeroCells]; omega), List.getElem?_eq_none (by rw [repV_len]; simpa using hi)]


theorem over_get (cur : Array Value) (p : Nat) (x : List Value) (h : p + x.length ≤ cur.size) (i : Nat) :
    (cur.toList.take p ++ x ++ cur.toList.drop (p + x.length)).toArray[i]? = if p ≤ i ∧ i < p + x.length then x[i - p]? else cur[i]? := by
  rw [List.getElem?_toArray, List.append_assoc, List.getElem?_append, List.getElem?_append]
  simp only [List.length_take, Array.length_toList]
  rw [Nat.min_eq_left (by omega)]
  by_cases c1 : i < p
  · rw [if_pos (by omega), if_neg (by omega), List.getElem?_take, if_pos (by omega)]; simp
  · rw [if_neg (by omega)]
    by_cases c2 : i < p + x.length
    · rw [if_pos (by omega), if_pos (by omega)]
    · rw [if_neg (by omega), if_neg (by omega), List.getElem?_drop]
      simp only [Array.getElem?_toList]
      congr 1; omega

theorem moved_ok {g : T O} {w : World} (hS : HSat ρ g.get n w) {id off ln lny es m0 : Nat} {t0 : T V} {cur : Array Value} {tty : TypeId} {L : Loc} (hg : g.get id = some (.cells t0 m0)) (hbar : bar ≤ id) (hL : ρ id = some L)
    (hh : w.heap[L.b]? = some (.cells cur tty (0, 0))) (hcs : cur.size = L.bs) {olds new : List V} {oldv news : List Value} (hol : RvL ρ n olds oldv) (hnew : RvL ρ n new news) (ho1 : ∀ v ∈ olds, one1 v = true) (hn1 : ∀ v ∈ new, one1 v = true)
    (hqo : olds.length = ln * es) (hqn : new.length = lny * es) (hold : ∀ j u, oldv[j]? = some u → cur[L.base + off + j]? = some u) {t' : T V} (ht' : ∀ j, j < (ln + lny) * es → t'.get j = (olds ++ new)[j]?)
    {gg : T O} (hgg : ∀ i, gg.get i = if i = n then some (.cells t' ((ln + lny) * es)) else if i = id then none else g.get i) :
    (∀ w', w' = w.setRow L.b (cur.toList.take (L.base + off + ln * es) ++ news ++ cur.toList.drop (L.base + off + ln * es + news.length)).toArray → L.base + off + (ln + lny) * es ≤ L.bs →
      HSat (ρ.put n ⟨L.b, L.base + off, L.bs⟩) gg.get (n + 1) w' ∧ Fr (Own ρ g.get bar) w (Own (ρ.put n ⟨L.b, L.base + off, L.bs⟩) gg.get bar) w') ∧
    (∀ w' ty slack, w'.heap = w.heap.push (.cells ((oldv ++ news) ++ slack).toArray ty) → w'.os = w.os ∧ w'.tape = w.tape ∧ w'.output = w.output →
      HSat (ρ.put n ⟨w.heap.size, 0, ((oldv ++ news) ++ slack).length⟩) gg.get (n + 1) w' ∧ Fr (Own ρ g.get bar) w (Own (ρ.put n ⟨w.heap.size, 0, ((oldv ++ news) ++ slack).length⟩) gg.get bar) w') := by
  have hoL := hol.length
  have hnL := hnew.length
  have hid := (hS.objs id _ hg).1
  have hmul : (ln + lny) * es = ln * es + lny * es := Nat.add_mul _ _ _
  have hgn : ∀ i o, gg.get i = some o → i ≠ n → g.get i = some o ∧ i ≠ id := by
    intro i o h hne
    rw [hgg, if_neg hne] at h
    split at h
    · cases h
    · rename_i hi; exact ⟨h, hi⟩
  have hboth := hol.append hnew
  constructor
  · intro w' hw' hroom
    subst hw'
    have hkeep : ∀ b, b < w.heap.size → b ≠ L.b → (w.setRow L.b (cur.toList.take (L.base + off + ln * es) ++ news ++ cur.toList.drop (L.base + off + ln * es + news.length)).toArray).heap[b]? = w.heap[b]? := fun b _ hb => setRow_other w L.b b _ hb
    have hget := over_get cur (L.base + off + ln * es) news (by omega)
    refine ⟨hS.upd (id0 := n) (o0 := .cells t' ((ln + lny) * es)) (Nat.le_succ _) (agree_put _ _ _) (Nat.lt_succ_self _) (put_same _ _ _) ?_ (fun o h => by rw [hgg, if_pos rfl] at h; simpa using h.symm) (fun i o h hne => ?_) hkeep (dom_put hS.dom _) (fun i L' h => ?_),
      Fr.upd (id0 := n) (B := L.b) hS (agree_put _ _ _) ⟨rfl, rfl, rfl⟩ (by simp) hkeep (.inl ⟨id, _, L, hbar, hg, hL, rfl⟩) (fun L' h => by rw [put_same] at h; cases h; rfl) (fun i o h hne => (hgn i o h hne).1)⟩
    · simp only [ObjOk]
      refine ⟨_, _, tty, put_same _ _ _, setRow_heap w L.b cur _ tty (0, 0) hh, by simp; omega, hroom, fun i hi => ?_⟩
      have hi2 : i < (olds ++ new).length := by simp; omega
      obtain ⟨u, hu, hr⟩ := hboth.get i (olds ++ new)[i] (List.getElem?_eq_getElem hi2)
      refine ⟨_, u, by rw [ht' i hi]; exact List.getElem?_eq_getElem (by simp; omega), ?_, ?_, hr.ag (Nat.le_succ _) (agree_put _ _ _)⟩
      · rcases List.mem_append.1 (List.getElem_mem (l := olds ++ new) (n := i) (by simp; omega)) with h | h
        · exact ho1 _ h
        · exact hn1 _ h
      · show _[L.base + off + i]? = _
        rw [hget]
        rw [List.getElem?_append] at hu
        split at hu
        · rw [if_neg (by omega)]
          exact hold i u hu
        · rw [if_pos (by omega), show L.base + off + i - (L.base + off + ln * es) = i - oldv.length by omega]
          exact hu
    · obtain ⟨h1, h2⟩ := hgn i o h hne
      exact ⟨h1, fun L' hL' => hS.sep i o id _ h1 hg h2 L' L hL' hL⟩
    · rw [setRow_size]
      simp only [Nm.put] at h
      split at h
      · cases h; exact hS.blk id L hL
      · exact hS.blk i L' h
  · intro w' ty slack hw hio
    have hkeep : ∀ b, b < w.heap.size → b ≠ w.heap.size → w'.heap[b]? = w.heap[b]? := fun b hb _ => by rw [hw, Array.getElem?_push, if_neg (by omega)]
    have hsz : w'.heap.size = w.heap.size + 1 := by rw [hw]; simp
    refine ⟨hS.upd (id0 := n) (o0 := .cells t' ((ln + lny) * es)) (Nat.le_succ _) (agree_put _ _ _) (Nat.lt_succ_self _) (put_same _ _ _) ?_ (fun o h => by rw [hgg, if_pos rfl] at h; simpa using h.symm) (fun i o h hne => ?_) hkeep (dom_put hS.dom _) (fun i L' h => ?_),
      Fr.upd (id0 := n) (B := w.heap.size) hS (agree_put _ _ _) hio (by omega) hkeep (.inr (Nat.le_refl _)) (fun L' h => by rw [put_same] at h; cases h; rfl) (fun i o h hne => (hgn i o h hne).1)⟩
    · simp only [ObjOk]
      refine ⟨_, ((oldv ++ news) ++ slack).toArray, ty, put_same _ _ _, by rw [hw]; simp, by simp, by simp; omega, fun i hi => ?_⟩
      have hi2 : i < (olds ++ new).length := by simp; omega
      obtain ⟨u, hu, hr⟩ := hboth.get i (olds ++ new)[i] (List.getElem?_eq_getElem hi2)
      refine ⟨_, u, by rw [ht' i hi]; exact List.getElem?_eq_getElem (by simp; omega), ?_, ?_, hr.ag (Nat.le_succ _) (agree_put _ _ _)⟩
      · rcases List.mem_append.1 (List.getElem_mem (l := olds ++ new) (n := i) (by simp; omega)) with h | h
        · exact ho1 _ h
        · exact hn1 _ h
      · rw [Nat.zero_add, List.getElem?_toArray, List.getElem?_append_left (by simp; omega)]; exact hu
    · obtain ⟨h1, h2⟩ := hgn i o h hne
      exact ⟨h1, fun L' hL' => by have := hS.blk i L' hL'; show L'.b ≠ w.heap.size; omega⟩
    · simp only [Nm.put] at h
      split at h
      · cases h; show w.heap.size < _; omega
      · have := hS.blk i L' h; omega

theorem run_append_room_at (w : World) (t ty e : TypeId) (i : TypeInfo) (ht : P.underlying t = some (.slice e)) (hi : P.info? e = some i) (g o sLen sCap : Nat) {y : Value} {m : Nat} {news : List Value} {w' : World}
    (hlen : (Builtin.lenOf y).run P w = .ok m w) (hf : (Builtin.firstCells i.size m y).run P w = .ok news.toArray w) (hroom : sLen + m ≤ sCap)
    (hst : (storeCells ⟨g, o + sLen * i.size, none⟩ news).run P w = .ok () w') :
    (Builtin.append_ #[t, t] ty #[.slice (some ⟨g, o, none⟩) sLen sCap, y]).run P w = .ok (.slice (some ⟨g, o, none⟩) (sLen + m) sCap) w' := by
  simp [Builtin.append_, run_underlying ht, Go.sizeOf, typeInfo, hi, hlen, hroom, hf, add_at, hst]

theorem own_mono {g g' : Nat → Option O} {b : Nat} (h : ∀ i o, g' i = some o → ∃ o', g i = some o') (hb : Own ρ g' bar b) : Own ρ g bar b := by
  obtain ⟨i, o, L, h1, h2, h3, h4⟩ := hb
  obtain ⟨o', h5⟩ := h i o h2
  exact ⟨i, o', L, h1, h5, h3, h4⟩

section
variable (hE : EnvOk E P)
include hE

theorem appendX_ok {t es : Nat} (hes : elemSize E t = some es) {e : Nat} (hk : kindOf E t = .slice e) {ety : Ty} (hety : E.T e = some ety) (ty : TypeId) {g : T O} {w : World} (hS : HSat ρ g.get n w) {x y : V} {ux uy : Value}
    (hx : Rv ρ n x ux) (hy : Rv ρ n y uy) {m : Nat} (hm : lenV y = some m) {new : List V} {news : List Value} (hnew : RvL ρ n new news) (hnlen : new.length = m * es) (_hn1 : ∀ v ∈ new, one1 v = true)
    (hsrc : (m = 0 ∧ new = []) ∨ (∃ a ln c, y = .rslc a ln c ∧ uy = .slice (some a) ln c ∧ ∀ j u, news[j]? = some u → w.cell? (a.add j) = some u) ∨ ∃ id off ln cap L off' c, y = .slc id es off ln cap ∧ ρ id = some L ∧ uy = .slice (some ⟨L.b, off', none⟩) ln c ∧ (ln ≠ 0 → off' = L.base + off) ∧ (∀ j u, news[j]? = some u → w.cell? ((⟨L.b, L.base + off, none⟩ : Addr).add j) = some u))
    {k : V → T O → Nat → R} {r : Ex × St} (h : appendX bar g n es ety.bytes x m new k = some r) :
    ∃ v g' n', k v g' n' = some r ∧ ∃ u ρ' w', (Builtin.append_ #[t, t] ty #[ux, uy]).run P w = .ok u w' ∧ Rv ρ' n' v u ∧ HSat ρ' g'.get n' w' ∧ agree n ρ ρ' ∧ n ≤ n' ∧ Fr (Own ρ g.get bar) w (Own ρ' g'.get bar) w' := by
  obtain ⟨e', ety', i, z, hu, hety', hk', hsz, hpos, hi, his, hib, hz, hzr⟩ := elem_ok hE hes
  rw [hk] at hk'; cases hk'
  rw [hety] at hety'; cases hety'
  have hlenof : (Builtin.lenOf uy).run P w = .ok m w := by
    match y, hm, hy with
    | .slc id es' off ln none, hm, hy =>
      simp only [lenV, Option.some.injEq] at hm
      simp only [Rv] at hy; obtain ⟨_, _, L, c, o, _, rfl, _⟩ := hy; simp [Builtin.lenOf, hm]
    | .slc id es' off ln (some c), hm, hy =>
      simp only [lenV, Option.some.injEq] at hm
      simp only [Rv] at hy; obtain ⟨_, _, _, L, _, rfl⟩ := hy; simp [Builtin.lenOf, hm]
    | .rslc a ln c, hm, hy =>
      simp only [lenV, Option.some.injEq] at hm
      simp only [Rv] at hy; obtain ⟨_, rfl⟩ := hy; simp [Builtin.lenOf, hm]
    | .nils, hm, hy =>
      simp only [lenV, Option.some.injEq] at hm
      simp only [Rv] at hy; subst hy; simp [Builtin.lenOf, hm]
  have hnl := hnew.length
  -- what is read of the source, in a world with the same heap
  have hfirst : ∀ w2 : World, w2.heap = w.heap → (Builtin.firstCells i.size m uy).run P w2 = .ok news.toArray w2 := by
    intro w2 hw2
    have hcell : ∀ a, w2.cell? a = w.cell? a := fun a => by simp [World.cell?, hw2]
    rcases hsrc with ⟨h0, hnil⟩ | ⟨a, ln, c, rfl, rfl, hc⟩ | ⟨id, off, ln, cap, L, off', c, rfl, hL, rfl, hoff, hc⟩
    · have : news = [] := by rw [hnil] at hnl; exact List.length_eq_zero_iff.1 hnl
      subst this
      subst h0
      match y, hm, hy with
      | .slc id es' off ln none, hm, hy =>
        simp only [Rv] at hy; obtain ⟨_, _, L, c, o, _, rfl, _⟩ := hy; simp [Builtin.firstCells, loadCells, loadCellsFrom]
      | .slc id es' off ln (some c), hm, hy =>
        simp only [Rv] at hy; obtain ⟨_, _, _, L, _, rfl⟩ := hy; simp [Builtin.firstCells, loadCells, loadCellsFrom]
      | .rslc a ln c, hm, hy =>
        simp only [Rv] at hy; obtain ⟨_, rfl⟩ := hy; simp [Builtin.firstCells, loadCells, loadCellsFrom]
      | .nils, hm, hy =>
        simp only [Rv] at hy; subst hy; simp [Builtin.firstCells]
    · simp only [lenV, Option.some.injEq] at hm
      subst hm
      exact run_firstCells_some (P := P) w2 i.size ln _ ln c news (by rw [hnl, hnlen, his]) (fun j v hj => by rw [hcell]; exact hc j v hj)
    · simp only [lenV, Option.some.injEq] at hm
      subst hm
      by_cases h0 : ln = 0
      · have : news = [] := by apply List.length_eq_zero_iff.1; rw [hnl, hnlen, h0, Nat.zero_mul]
        rw [this, h0]
        simp [Builtin.firstCells, loadCells, loadCellsFrom]
      · rw [hoff h0]
        exact run_firstCells_some (P := P) w2 i.size ln _ ln c news (by rw [hnl, hnlen, his]) (fun j v hj => by rw [hcell]; exact hc j v hj)
  -- a new array
  have fresh : ∀ (olds : List V) (oldv : List Value) (q : Nat) (need old : Nat) {kk : T O → Nat → R}, RvL ρ n olds oldv → (∀ v ∈ olds, one1 v = true) → olds.length = q * es → need = q + m → 0 < need → old < need → newRow g n (olds ++ new) kk = some r →
      ∀ u, u = Value.slice (some ⟨w.heap.size, 0, none⟩) need (grownCap w need old e) →
      ∃ g' ρ' w', kk g' (n + 1) = some r ∧ w' = w.drew.alloc (.cells (oldv.toArray ++ news.toArray ++ Builtin.zeroCells z.cells (grownCap w need old e - need)) e) ∧
        Rv ρ' (n + 1) (.slc n es 0 need none) u ∧ HSat ρ' g'.get (n + 1) w' ∧ agree n ρ ρ' ∧ Fr (Own ρ g.get bar) w (Own ρ' g'.get bar) w' := by
    intro olds oldv q need old kk hol h1 hql hneed hpos' hold hrow u hu
    have hge : need ≤ grownCap w need old e := grownCap_ge w need old e
    have hzs : z.cells.size = es := by have := (hzr ρ n).length; rw [← Array.length_toList, this, (hE.T _ _ hety).zlen, hsz]
    have hoL := hol.length
    obtain ⟨g', h2, h3, h4⟩ := newRow_ok (bar := bar) (ty := e) (slack := (Builtin.zeroCells z.cells (grownCap w need old e - need)).toList) hS (hol.append hnew) hrow
      (w' := w.drew.alloc (.cells (oldv.toArray ++ news.toArray ++ Builtin.zeroCells z.cells (grownCap w need old e - need)) e)) (by
        show w.heap.push _ = _
        congr 2
        apply Array.ext'; simp) ⟨rfl, rfl, rfl⟩
    refine ⟨g', _, _, h2, rfl, ?_, h3, agree_put _ _ _, h4⟩
    subst hu
    simp only [Rv]
    refine ⟨Nat.lt_succ_self _, hpos, _, _, 0, put_same _ _ _, rfl, hge, ?_, .inl rfl⟩
    have hzc : (Builtin.zeroCells z.cells (grownCap w need old e - need)).toList.length = (grownCap w need old e - need) * es := by simp [Builtin.zeroCells, hzs]
    simp only [List.length_append, hoL, hql, hnl, hnlen, hzc, Nat.zero_add, ← Nat.add_mul]
    congr 1; omega
  unfold appendX at h
  split at h
  · -- nothing
    have hnil : news = [] := by apply List.length_eq_zero_iff.1; rw [hnl, hnlen, Nat.zero_mul]
    have hsame : ∀ a ln c, ux = .slice a ln c → ln ≤ c → (Builtin.append_ #[t, t] ty #[ux, uy]).run P w = .ok ux w := by
      intro a ln c hux hle
      have hf := hfirst w rfl
      rw [hnil] at hf
      subst hux
      cases a <;> simp [Builtin.append_, run_underlying hu, run_sizeOf' hi, hlenof, hle, hf, storeCells]
    split at h
    · simp only [Rv] at hx
      exact ⟨_, _, _, h, ux, ρ, w, hsame none 0 0 hx (Nat.le_refl _), by simp only [Rv]; exact hx, hS, agree.refl _ _, Nat.le_refl _, Fr.refl _ _⟩
    · rename_i id es' off ln cap
      split at h
      · have hx0 := hx
        refine ⟨_, _, _, h, ux, ρ, w, ?_, hx0, hS, agree.refl _ _, Nat.le_refl _, Fr.refl _ _⟩
        cases cap with
        | none => simp only [Rv] at hx; obtain ⟨_, _, L, c, o, _, hux, hle, _⟩ := hx; exact hsame _ _ _ hux hle
        | some c => simp only [Rv] at hx; obtain ⟨_, _, hle, L, _, hux⟩ := hx; exact hsame _ _ _ hux hle
      · cases h
    · cases h
  · rename_i hm0
    have hm0 : m ≠ 0 := fun e => hm0 e
    obtain ⟨ay, cy, huy, hcy⟩ : ∃ a c, uy = .slice (some a) m c ∧ ∀ j u, news[j]? = some u → w.cell? (a.add j) = some u := by
      rcases hsrc with h0 | ⟨a, ln, c, rfl, rfl, hc⟩ | ⟨id, off, ln, cap, L, off', c, rfl, hL, rfl, hoff, hc⟩
      · exact absurd h0.1 hm0
      · simp only [lenV, Option.some.injEq] at hm
        subst hm
        exact ⟨a, c, rfl, hc⟩
      · simp only [lenV, Option.some.injEq] at hm
        subst hm
        have hoff := hoff hm0
        subst hoff
        exact ⟨_, c, rfl, hc⟩
    split at h
    · -- onto nil
      simp only [Rv] at hx
      subst hx
      split at h
      · rename_i hb
        simp only [roomOk, Bool.and_eq_true, Nat.ble_eq] at hb
        have hb1 : m * ety.bytes ≤ 4294967296 := hb.1
        have hpos' : 0 < m := Nat.pos_of_ne_zero hm0
        unfold grown at h
        obtain ⟨g', ρ', w', h1, h2, h3, h4, h5, h6⟩ := fresh [] [] 0 m 0 (by simp [RvL]) (by simp) (by simp) (Nat.zero_add _).symm hpos' hpos' (by simpa using h) _ rfl
        refine ⟨_, g', n + 1, h1, _, ρ', w', ?_, h3, h4, h5, Nat.le_succ _, h6⟩
        have hln63 : (m : Int) ≤ 9223372036854775807 := by have := hb.2; omega
        have h48 : m * i.bytes ≤ 281474976710656 := by rw [hib]; omega
        have := run_append_nil (P := P) w t ty e i z hu hi hz _ m cy news (by rw [hnl, hnlen, his]) hcy hpos' hln63 h48
        rw [h2, huy]
        simpa using this
      · cases h
    · rename_i id es' off ln cap
      split at h
      · cases h
      · rename_i hc
        simp only [Bool.and_eq_true, Nat.beq_eq, roomOk, Nat.ble_eq] at hc
        obtain ⟨hee, hb, hb2⟩ := hc
        have hee : es = es' := hee
        subst hee
        have hb : (ln + m) * ety.bytes ≤ 4294967296 := hb
        have hb2 : ln + m ≤ 4294967296 := hb2
        have h63 : ((ln + m : Nat) : Int) ≤ 9223372036854775807 := by omega
        have hpos' : 0 < ln + m := Nat.lt_of_lt_of_le (Nat.pos_of_ne_zero hm0) (Nat.le_add_left _ _)
        have hlt' : ln < ln + m := Nat.lt_add_of_pos_right (Nat.pos_of_ne_zero hm0)
        have hfit : ∀ c, c < ln + m → Builtin.nextslicecap (ln + m) c * i.bytes ≤ 281474976710656 := fun c hc => growslice_fits hc (by rw [hib]; omega)
        -- a new array behind the old elements
        have grows : ∀ {L : Loc} {a : Addr} {c : Nat} {olds : List V} {oldv : List Value} {kk : T O → Nat → R}, ux = .slice (some a) ln c → c < ln + m → RvL ρ n olds oldv → (∀ v ∈ olds, one1 v = true) → olds.length = ln * es →
            (∀ j v, oldv[j]? = some v → w.cell? (a.add j) = some v) → newRow g n (olds ++ new) kk = some r →
            ∃ g' ρ' w' u, kk g' (n + 1) = some r ∧ (Builtin.append_ #[t, t] ty #[ux, uy]).run P w = .ok u w' ∧ Rv ρ' (n + 1) (.slc n es 0 (ln + m) none) u ∧ HSat ρ' g'.get (n + 1) w' ∧ agree n ρ ρ' ∧ Fr (Own ρ g.get bar) w (Own ρ' g'.get bar) w' := by
          intro L a c olds oldv kk hux hc hol h1 hql holc hrow
          obtain ⟨g', ρ', w', g1, g2, g3, g4, g5, g6⟩ := fresh olds oldv ln (ln + m) c hol h1 hql rfl hpos' hc hrow _ rfl
          have hoL := hol.length
          have := run_append_grow (P := P) w t ty e i z hu hi hz a ln c oldv (by rw [hoL, hql, his]) holc _ m cy news (by rw [hnl, hnlen, his]) hcy hc h63 (hfit c hc)
          exact ⟨g', ρ', w', _, g1, by rw [hux, huy, g2]; exact this, g3, g4, g5, g6⟩
        -- into the room that there is
        have fits : ∀ {L : Loc} {c : Nat} {kk : T O → R}, ρ id = some L → ux = .slice (some ⟨L.b, L.base + off, none⟩) ln c → ln + m ≤ c → store bar g id (off + ln * es) new kk = some r →
            ∃ g' w', kk g' = some r ∧ (Builtin.append_ #[t, t] ty #[ux, uy]).run P w = .ok (.slice (some ⟨L.b, L.base + off, none⟩) (ln + m) c) w' ∧ HSat ρ g'.get n w' ∧ Fr (Own ρ g.get bar) w (Own ρ g'.get bar) w' := by
          intro L c kk hL hux hroom hst
          obtain ⟨g', w', g1, g2, g3, g4, _⟩ := store_ok hS hnew hL hst
          refine ⟨g', w', g1, ?_, g2, g3⟩
          rw [hux]
          exact run_append_room_at w t ty e i hu hi L.b (L.base + off) ln c hlenof (hfirst w rfl) hroom (by rw [his, Nat.add_assoc]; exact g4)
        cases cap with
        | some c =>
          simp only [Rv] at hx
          obtain ⟨hid, _, hlnc, L, hL, hux⟩ := hx
          simp only at h
          split at h
          · rename_i hroom
            have hroom : ln + m ≤ c := by simpa using hroom
            obtain ⟨g', w', g1, g2, g3, g4⟩ := fits hL hux hroom h
            rw [fN_eq] at g1
            refine ⟨_, g', n, g1, _, ρ, w', g2, ?_, g3, agree.refl _ _, Nat.le_refl _, g4⟩
            simp only [Rv]
            exact ⟨hid, hpos, hroom, L, hL, rfl⟩
          · rename_i hroom
            have hroom : c < ln + m := by
              have : ¬ ln + m ≤ c := fun hh => by rw [← Nat.ble_eq] at hh; exact absurd (hh.symm.trans hroom) (by simp)
              omega
            obtain ⟨olds, oldv, q1, q2, q3, q4, q5⟩ := cellsOf_ok (ro := fun _ => none) (fun _ _ h => by cases h) hS (y := .slc id es off ln (some c)) (u := ux) (by simp only [Rv]; exact ⟨hid, hpos, hlnc, L, hL, hux⟩) h
            rw [fL_eq, fN_eq] at q1
            unfold grown at q1
            have holc : ∀ j v, oldv[j]? = some v → w.cell? ((⟨L.b, L.base + off, none⟩ : Addr).add j) = some v := by
              rcases q5 with ⟨h0, hnil⟩ | ⟨_, _, _, heq, _⟩ | ⟨id', off', ln', cap', L', o', c', heq, hL', hu', ho', hcell⟩
              rotate_left
              · cases heq
              rotate_left
              · have := q2.length; rw [hnil] at this; have := List.length_eq_zero_iff.1 this; subst this
                intro j v hj; simp at hj
              · cases heq
                rw [hL] at hL'; cases hL'
                exact hcell
            obtain ⟨g', ρ', w', u, g1, g2, g3, g4, g5, g6⟩ := grows (L := L) hux hroom q2 q3 q4 holc q1
            exact ⟨_, g', n + 1, g1, u, ρ', w', g2, g3, g4, g5, Nat.le_succ _, g6⟩
        | none =>
          have hx0 := hx
          simp only [Rv] at hx
          obtain ⟨hid, _, L, c, off', hL, hux, hlnc, hbs, hoff⟩ := hx
          simp only at h
          split at h
          · rename_i tt mm hg hbar hone
            obtain ⟨_, hob⟩ := hS.objs id _ hg
            simp only [ObjOk] at hob
            obtain ⟨L', cur, tty, hL', hh, hcs, hmm, hcell⟩ := hob
            rw [hL] at hL'; cases hL'
            split at h
            · rename_i hfit'
              have hfit' : off + (ln + m) * es ≤ mm := by simpa using hfit'
              have hroom : ln + m ≤ c := by
                have h1 : (ln + m) * es ≤ c * es := by omega
                exact Nat.le_of_mul_le_mul_right h1 hpos
              have hoff' : off' = L.base + off := by
                rcases hoff with h | h
                · exact h
                · omega
              subst hoff'
              obtain ⟨g', w', g1, g2, g3, g4⟩ := fits hL hux hroom h
              rw [fN_eq] at g1
              refine ⟨_, g', n, g1, _, ρ, w', g2, ?_, g3, agree.refl _ _, Nat.le_refl _, g4⟩
              simp only [Rv]
              exact ⟨hid, hpos, L, c, _, hL, rfl, hroom, hbs, .inl rfl⟩
            · split at h
              · cases h
              · rename_i hle
                have hle : off + ln * es ≤ mm := by simpa using hle
                have hbar' : bar ≤ id := by simpa [geB] using hbar
                have hn1' := (oneAll_iff _).1 hone
                -- what was there
                have old : ∃ olds oldv, RvL ρ n olds oldv ∧ (∀ v ∈ olds, one1 v = true) ∧ olds.length = ln * es ∧ (∀ j u, oldv[j]? = some u → cur[L.base + off + j]? = some u) ∧
                    (∀ j u, oldv[j]? = some u → w.cell? ((⟨L.b, L.base + off, none⟩ : Addr).add j) = some u) ∧
                    ∃ t' gg, (∀ j, j < (ln + m) * es → t'.get j = (olds ++ new)[j]?) ∧ (∀ i, gg.get i = if i = n then some (.cells t' ((ln + m) * es)) else if i = id then none else g.get i) ∧
                      k (.slc n es 0 (ln + m) none) gg (n + 1) = some r := by
                  obtain ⟨olds, oldv, L2, cur2, ty2, p2, p3, p4, p5, p6, _, _, p8, p9, p10⟩ := cells_list hS hg hle
                  rw [hL] at p5; cases p5
                  rw [hh] at p6; cases p6
                  have hmul : (ln + m) * es = ln * es + m * es := Nat.add_mul _ _ _
                  refine ⟨olds, oldv, p3, p4, p2, p9, p10, ?_⟩
                  split at h
                  · -- from the head on
                    obtain ⟨t', q1, q2⟩ := wrt_ok _ _ _ h
                    rw [fN_eq, fN_eq, T.set_eq, T.set_eq] at q1
                    have hm1 : Nat.mul ln es = ln * es := rfl
                    refine ⟨t', _, fun j hj => ?_, fun i => ?_, q1⟩
                    · rw [q2, List.getElem?_append, p2, hm1]
                      by_cases hj2 : j < ln * es
                      · rw [if_neg (by omega), if_pos hj2]
                        have := p8 j hj2
                        rwa [Nat.zero_add] at this
                      · rw [if_neg hj2, if_pos (by omega)]
                    · rw [T.get_up, T.get_up]; rfl
                  · rw [show Nat.mul ln es = olds.length from p2.symm, rd_eq olds off _ (fun j hj => p8 j (by omega)), fL_eq, fN_eq, T.set_eq] at h
                    unfold newRow at h
                    split at h
                    · obtain ⟨t', q1, q2⟩ := wrt_ok _ _ _ h
                      rw [fN_eq, CX.new, T.set_eq, len_eq] at q1
                      refine ⟨t', _, fun j hj => ?_, fun i => ?_, q1⟩
                      · rw [q2, if_pos (by simp; omega), Nat.sub_zero]
                      · rw [T.get_up, T.get_up]
                        have : (olds ++ new).length = (ln + m) * es := by simp; omega
                        rw [this]
                    · cases h
                obtain ⟨olds, oldv, o1, o2, o3, o4, o5, t', gg, o6, o7, o8⟩ := old
                have hoL := o1.length
                obtain ⟨m1, m2⟩ := moved_ok (bar := bar) hS hg hbar' hL hh hcs o1 hnew o2 hn1' o3 hnlen o4 o6 o7
                by_cases hroom : ln + m ≤ c
                · have hoff' : off' = L.base + off := by
                    rcases hoff with h | h
                    · exact h
                    · omega
                  subst hoff'
                  have hfitc : L.base + off + (ln + m) * es ≤ L.bs := by
                    have : (ln + m) * es ≤ c * es := Nat.mul_le_mul_right _ hroom
                    omega
                  obtain ⟨m3, m4⟩ := m1 _ rfl hfitc
                  have hx1 : ∀ v ∈ news, v.oneCell' = true := by
                    intro v hv
                    obtain ⟨i, hi, rfl⟩ := List.getElem_of_mem hv
                    have hi' : i < new.length := by omega
                    obtain ⟨u, hu, hr⟩ := hnew.get i new[i] (List.getElem?_eq_getElem hi')
                    rw [List.getElem?_eq_getElem hi] at hu
                    cases hu
                    exact one1_cell hr (hn1' _ (List.getElem_mem hi'))
                  have hst := run_storeCells_at P L.b (L.base + off + ln * es) tty news 0 cur w hh (by rw [Nat.add_mul] at hfitc; omega) hx1
                  simp only [Nat.add_zero] at hst
                  refine ⟨_, gg, n + 1, o8, .slice (some ⟨L.b, L.base + off, none⟩) (ln + m) c, _, _, ?_, ?_, m3, agree_put _ _ _, Nat.le_succ _, m4⟩
                  · rw [hux]
                    exact run_append_room_at w t ty e i hu hi L.b (L.base + off) ln c hlenof (hfirst w rfl) hroom (by rw [his]; exact hst)
                  · simp only [Rv]
                    exact ⟨Nat.lt_succ_self _, hpos, _, c, _, put_same _ _ _, rfl, hroom, by show L.base + off + 0 + c * es = L.bs; omega, .inl rfl⟩
                · have hc : c < ln + m := Nat.lt_of_not_le hroom
                  have hge : ln + m ≤ grownCap w (ln + m) c e := grownCap_ge w (ln + m) c e
                  have hzs : z.cells.size = es := by have := (hzr ρ n).length; rw [← Array.length_toList, this, (hE.T _ _ hety).zlen, hsz]
                  have hzc : (Builtin.zeroCells z.cells (grownCap w (ln + m) c e - (ln + m))).toList.length = (grownCap w (ln + m) c e - (ln + m)) * es := by simp [Builtin.zeroCells, hzs]
                  obtain ⟨m3, m4⟩ := m2 (w.drew.alloc (.cells (oldv.toArray ++ news.toArray ++ Builtin.zeroCells z.cells (grownCap w (ln + m) c e - (ln + m))) e)) e (Builtin.zeroCells z.cells (grownCap w (ln + m) c e - (ln + m))).toList (by
                    show w.heap.push _ = _
                    congr 2
                    apply Array.ext'; simp) ⟨rfl, rfl, rfl⟩
                  have holc : ∀ j v, oldv[j]? = some v → w.cell? ((⟨L.b, off', none⟩ : Addr).add j) = some v := by
                    rcases hoff with h | h
                    · rw [h]; exact o5
                    · have : oldv = [] := List.length_eq_zero_iff.1 (by rw [hoL, o3, show ln = 0 by omega, Nat.zero_mul])
                      subst this
                      intro j v hj; simp at hj
                  have hrun := run_append_grow (P := P) w t ty e i z hu hi hz ⟨L.b, off', none⟩ ln c oldv (by rw [hoL, o3, his]) holc _ m cy news (by rw [hnl, hnlen, his]) hcy hc h63 (hfit c hc)
                  refine ⟨_, gg, n + 1, o8, _, _, _, by rw [hux, huy]; exact hrun, ?_, m3, agree_put _ _ _, Nat.le_succ _, m4⟩
                  simp only [Rv]
                  refine ⟨Nat.lt_succ_self _, hpos, _, _, 0, put_same _ _ _, rfl, hge, ?_, .inl rfl⟩
                  simp only [List.length_append, hoL, o3, hnl, hnlen, hzc, Nat.zero_add, ← Nat.add_mul]
                  congr 1; omega
          · cases h
    · cases h
end
end
end CX

namespace CX
open Go

section
variable {P : Program} {E : Env} {ρ : Nm} {n bar : Nat}

theorem setK_ok {kind : TypeDesc} {kd : TK} (hkd : KdOk P kd kind) {key : V} {ku : Value} (hkv : keyV kd key = true) (hkey : Rv ρ n key ku) {val : V} {vu : Value} (hval : Rv ρ n val vu) (c : Nat) :
    ∀ (l : List (V × V × Nat)) (es : List MapEntry) (i : Nat) {k : List (V × V × Nat) → Bool → R} {r : Ex × St}, RvM ρ n l es → setK key val l c k = some r →
      ∃ l' f, k l' f = some r ∧
        ((f = true ∧ Instr.findNow kind ku es i = some none ∧ RvM ρ n l' (es ++ [{ key := ku, val := vu, born := c }])) ∨
         (f = false ∧ ∃ j u e, Instr.findNow kind ku es i = some (some (i + j, u)) ∧ es[j]? = some e ∧ RvM ρ n l' (es.set j { e with key := ku, val := vu }) ∧ Instr.sameNow kind ku e.key = some true))
  | [], [], i, k, r, _, h => ⟨_, _, h, .inl ⟨rfl, rfl, by simp only [List.nil_append, RvM]; exact ⟨hkey, hval, trivial, trivial⟩⟩⟩
  | (q, v, b) :: l, e :: es, i, k, r, hr, h => by
    simp only [RvM] at hr
    simp only [setK] at h
    split at h
    · rename_i hc
      have hs := same_now hkd hkv hkey hr.1 hc
      refine ⟨_, _, h, .inr ⟨rfl, 0, e.val, e, by simp only [Instr.findNow, hs, Nat.add_zero], rfl, ?_, hs⟩⟩
      simp only [List.set_cons_zero, RvM]
      exact ⟨hkey, hval, hr.2.2.1, hr.2.2.2⟩
    · rename_i hc
      have hs := same_now hkd hkv hkey hr.1 hc
      obtain ⟨l', f, h1, h2⟩ := setK_ok hkd hkv hkey hval c l es (i + 1) hr.2.2.2 h
      refine ⟨_, f, h1, ?_⟩
      rcases h2 with ⟨g1, g2, g3⟩ | ⟨g1, j, u, e', g2, g3, g4, g5⟩
      · refine .inl ⟨g1, by simp only [Instr.findNow, hs]; exact g2, ?_⟩
        simp only [List.cons_append, RvM]
        exact ⟨hr.1, hr.2.1, hr.2.2.1, g3⟩
      · refine .inr ⟨g1, j + 1, u, e', by simp only [Instr.findNow, hs]; rw [g2]; congr 3; omega, by simpa using g3, ?_, g5⟩
        simp only [List.set_cons_succ, RvM]
        exact ⟨hr.1, hr.2.1, hr.2.2.1, g4⟩
    · cases h
  | [], _ :: _, _, _, _, h, _ => by simp [RvM] at h
  | _ :: _, [], _, _, _, h, _ => by simp [RvM] at h

theorem alloc_get (w : World) (ob : Obj) : (w.alloc ob).heap[w.heap.size]? = some ob := by
  show (w.heap.push ob)[w.heap.size]? = _
  simp

theorem run_setMap {w : World} {r : Nat} {es : Array MapEntry} {c : Nat} (h : w.heap[r]? = some (.map es c)) (o : Obj) : (setObj r o).run P w = .ok () { w with heap := w.heap.setIfInBounds r o } := by
  simp [setObj, Sem.run, h]

theorem setObj_ok {g : T O} {w : World} (hS : HSat ρ g.get n w) {id : Nat} {o o' : O} {L : Loc} (hL : ρ id = some L) (hg : g.get id = some o) (hbar : bar ≤ id) {ob : Obj} {w' : World} (hw : w'.heap = w.heap.setIfInBounds L.b ob)
    (hio : w'.os = w.os ∧ w'.tape = w.tape ∧ w'.output = w.output) (ho : ObjOk ρ n w' id o') : HSat ρ (g.up id (some o')).get n w' ∧ Fr (Own ρ g.get bar) w (Own ρ (g.up id (some o')).get bar) w' := by
  have hid := (hS.objs id o hg).1
  have hkeep : ∀ b, b < w.heap.size → b ≠ L.b → w'.heap[b]? = w.heap[b]? := fun b _ hb => by rw [hw, Array.getElem?_setIfInBounds_ne (Ne.symm hb)]
  have hsz : w'.heap.size = w.heap.size := by rw [hw]; simp
  refine ⟨hS.upd (id0 := id) (o0 := o') (Nat.le_refl _) (agree.refl _ _) hid hL ho (fun q h => by rw [T.get_up, if_pos rfl] at h; simpa using h.symm) (fun i q h hne => ?_) hkeep hS.dom (fun i L' h => by rw [hsz]; exact hS.blk i L' h),
    Fr.upd (id0 := id) (B := L.b) hS (agree.refl _ _) hio (by omega) hkeep (.inl ⟨id, _, L, hbar, hg, hL, rfl⟩) (fun L' h => by rw [hL] at h; cases h; rfl) (fun i q h hne => by rw [T.get_up, if_neg hne] at h; exact h)⟩
  rw [T.get_up, if_neg hne] at h
  exact ⟨h, fun L' hL' => hS.sep i q id _ h hg hne L' L hL' hL⟩

theorem set_get {w : World} {b : Nat} {o0 : Obj} (h : w.heap[b]? = some o0) (ob : Obj) : (w.heap.setIfInBounds b ob)[b]? = some ob := by
  have := (Array.getElem?_eq_some_iff.1 h).1
  simp [this]

theorem evL_ok' {ev : Operand → Option V} {ρe : Operand → Value} : ∀ (l : List Operand) {k : List V → R} {r : Ex × St}, (∀ x ∈ l, ∀ v, ev x = some v → Rv ρ n v (ρe x)) → evL ev l k = some r →
    ∃ vs, k vs = some r ∧ RvL ρ n vs (l.map ρe) := fun l => evL_ok l

section
variable (hE : EnvOk E P)
include hE

theorem copyX_ok {ro : Addr → Option V} {t es : Nat} (hes : elemSize E t = some es) {at_ : Array TypeId} (hat : at_[0]? = some t) (ty : TypeId) {g : T O} {w : World} (hR : RoAt ro w) (hS : HSat ρ g.get n w) {x y : V} {ux uy : Value} (hx : Rv ρ n x ux) (hy : Rv ρ n y uy)
    {k : V → T O → Nat → R} {r : Ex × St} (h : copyX ro bar g n es x y k = some r) :
    ∃ v g' w' u, k v g' n = some r ∧ (Builtin.copy_ at_ ty #[ux, uy]).run P w = .ok u w' ∧ Rv ρ n v u ∧ HSat ρ g'.get n w' ∧ Fr (Own ρ g.get bar) w (Own ρ g'.get bar) w' := by
  obtain ⟨e, ety, i, z, hu, hety, hk, hsz, hpos, hi, his, hib, hz, hzr⟩ := elem_ok hE hes
  unfold copyX at h
  split at h
  · cases h
  · rename_i m hm
    have hlenof : (Builtin.lenOf uy).run P w = .ok m w := by
      match y, hm, hy with
      | .slc id es' off ln none, hm, hy =>
        simp only [lenV, Option.some.injEq] at hm
        simp only [Rv] at hy; obtain ⟨_, _, L, c, o, _, rfl, _⟩ := hy; simp [Builtin.lenOf, hm]
      | .slc id es' off ln (some c), hm, hy =>
        simp only [lenV, Option.some.injEq] at hm
        simp only [Rv] at hy; obtain ⟨_, _, _, L, _, rfl⟩ := hy; simp [Builtin.lenOf, hm]
      | .rslc a ln c, hm, hy =>
        simp only [lenV, Option.some.injEq] at hm
        simp only [Rv] at hy; obtain ⟨_, rfl⟩ := hy; simp [Builtin.lenOf, hm]
      | .nils, hm, hy =>
        simp only [lenV, Option.some.injEq] at hm
        simp only [Rv] at hy; subst hy; simp [Builtin.lenOf, hm]
    have hfirst0 : (Builtin.firstCells i.size 0 uy).run P w = .ok #[] w := by
      match y, hm, hy with
      | .slc id es' off ln none, hm, hy =>
        simp only [Rv] at hy; obtain ⟨_, _, L, c, o, _, rfl, _⟩ := hy; simp [Builtin.firstCells, loadCells, loadCellsFrom]
      | .slc id es' off ln (some c), hm, hy =>
        simp only [Rv] at hy; obtain ⟨_, _, _, L, _, rfl⟩ := hy; simp [Builtin.firstCells, loadCells, loadCellsFrom]
      | .rslc a ln c, hm, hy =>
        simp only [Rv] at hy; obtain ⟨_, rfl⟩ := hy; simp [Builtin.firstCells, loadCells, loadCellsFrom]
      | .nils, hm, hy =>
        simp only [Rv] at hy; subst hy; simp [Builtin.firstCells]
    have run0 : ∀ base dl dc, ux = .slice base dl dc → Nat.min m dl = 0 → (Builtin.copy_ at_ ty #[ux, uy]).run P w = .ok (.int .i64 0) w := by
      intro base dl dc hux hmin
      subst hux
      cases base with
      | none => simp [Builtin.copy_, hat, run_underlying hu, hlenof, hmin, run_sizeOf' hi, hfirst0, goInt]
      | some a => simp [Builtin.copy_, hat, run_underlying hu, hlenof, hmin, run_sizeOf' hi, hfirst0, goInt, storeCells]
    split at h
    · simp only [Rv] at hx
      exact ⟨_, g, w, _, h, run0 none 0 0 hx (by simp), by simp [Rv], hS, Fr.refl _ _⟩
    · rename_i id es' off ln cap
      rw [fN_eq] at h
      have hxs : ∃ L off' c, ρ id = some L ∧ ux = .slice (some ⟨L.b, off', none⟩) ln c ∧ (ln ≠ 0 → off' = L.base + off) := by
        cases cap with
        | none =>
          simp only [Rv] at hx
          obtain ⟨_, _, L, c, o', hL, hu, hle, _, ho'⟩ := hx
          exact ⟨L, o', c, hL, hu, fun h0 => by rcases ho' with h | h; exact h; omega⟩
        | some c => simp only [Rv] at hx; obtain ⟨_, _, _, L, hL, hu⟩ := hx; exact ⟨L, _, c, hL, hu, fun _ => rfl⟩
      obtain ⟨L, off', c, hL, hux, hoff⟩ := hxs
      split at h
      · rename_i hq
        exact ⟨_, g, w, _, h, run0 _ _ _ hux hq, by simp [Rv], hS, Fr.refl _ _⟩
      · rename_i hq
        have hq : Nat.min m ln ≠ 0 := fun e => hq e
        have hln : ln ≠ 0 := fun e => hq (by rw [e]; exact Nat.min_zero _)
        obtain ⟨l, xs, g1, g2, g3, g4, g5⟩ := cellsOf_ok hR hS hy h
        have hxl := g2.length
        obtain ⟨g', w', p1, p2, p3, p4, _⟩ := store_ok (P := P) hS g2 hL g1
        refine ⟨_, g', w', .int .i64 (.ofNat (Nat.min m ln)), p1, ?_, by simp [Rv], p2, p3⟩
        have hfirst : (Builtin.firstCells i.size (Nat.min m ln) uy).run P w = .ok xs.toArray w := by
          rcases g5 with ⟨h0, _⟩ | ⟨a2, ln2, c2, rfl, rfl, hc2⟩ | ⟨id2, off2, ln2, cap2, L2, off2', c2, rfl, hL2, rfl, hoff2, hc2⟩
          · exact absurd h0 hq
          · simp only [lenV, Option.some.injEq] at hm
            subst hm
            exact run_firstCells_some (P := P) w i.size (Nat.min ln2 ln) _ ln2 c2 xs (by rw [hxl, g4, his]) hc2
          · simp only [lenV, Option.some.injEq] at hm
            subst hm
            have h20 : ln2 ≠ 0 := fun e => hq (by rw [e]; exact Nat.zero_min _)
            rw [hoff2 h20]
            exact run_firstCells_some (P := P) w i.size (Nat.min ln2 ln) _ ln2 c2 xs (by rw [hxl, g4, his]) hc2
        rw [hux, hoff hln]
        simp [Builtin.copy_, hat, run_underlying hu, hlenof, run_sizeOf' hi, hfirst, goInt, p4]
    · cases h

theorem opM_ok {g : T O} {w : World} (hR : RoAt E.ro w) (hS : HSat ρ g.get n w) {o : Oper} {ev : Operand → Option V} {ρe : Operand → Value} (hev : ∀ x ∈ o.op.operands, ∀ v, ev x = some v → Rv ρ n v (ρe x))
    {k : V → T O → Nat → R} {r : Ex × St} (h : opM E bar ev g n o.op k = some r) : ∃ v g' n', k v g' n' = some r ∧ MOk ρ g.get n w bar ((execOp ρe o).run P w) v g'.get n' := by
  have val : ∀ {v : V} {g' : T O} {n' : Nat} {u : Value} {ρ' : Nm} {w' : World}, (execOp ρe o).run P w = .ok (.value u) w' → Rv ρ' n' v u → HSat ρ' g'.get n' w' → agree n ρ ρ' → n ≤ n' → Fr (Own ρ g.get bar) w (Own ρ' g'.get bar) w' →
      MOk ρ g.get n w bar ((execOp ρe o).run P w) v g'.get n' := fun h1 h2 h3 h4 h5 h6 => ⟨_, _, _, _, h1, .inl rfl, h2, h3, h4, h5, h6⟩
  cases ho : o.op with
  | alloc t =>
    rw [ho] at h
    simp only [opM] at h
    split at h
    · rename_i ty hty
      have hok := hE.T _ _ hty
      obtain ⟨i, z, hi, his, _, hz, hzr, _⟩ := hok.info
      rw [CX.new, T.set_eq] at h
      have hzl := (hzr ρ n).length
      have hzc : z.cells.toList.length = ty.size := by rw [hzl, hok.zlen]
      obtain ⟨h3, h4⟩ := HSat.new (g' := (g.up n (some (.cells ty.zt ty.size))).get) (bar := bar) (bs := ty.size) (w' := w.alloc (.cells z.cells t)) (o := .cells ty.zt ty.size) hS rfl ⟨rfl, rfl, rfl⟩ (by
        simp only [ObjOk]
        refine ⟨_, z.cells, t, put_same _ _ _, alloc_get w _, by simpa using hzc, by simp, fun j hj => ?_⟩
        have hj' : j < ty.zero.length := by rw [hok.zlen]; exact hj
        obtain ⟨u, hu, hr⟩ := (hzr ρ n).get j ty.zero[j] (List.getElem?_eq_getElem hj')
        exact ⟨ty.zero[j], u, by rw [hok.zt j hj]; exact List.getElem?_eq_getElem hj', hok.zone _ (List.getElem_mem hj'), by rw [Nat.zero_add, ← Array.getElem?_toList]; exact hu, hr.ag (Nat.le_succ _) (agree_put _ _ _)⟩) (fun id => T.get_up _ _ _ _)
      refine ⟨_, _, _, h, val (u := .pointer (some ⟨w.heap.size, 0, none⟩)) ?_ ?_ h3 (agree_put _ _ _) (Nat.le_succ _) h4⟩
      · simp [execOp, ho, Instr.alloc, zeroValue, typeInfo, hi, hz, newVar, Go.newRow]
      · simp only [Rv]; exact ⟨Nat.lt_succ_self _, _, put_same _ _ _, rfl⟩
    · cases h
  | box t x =>
    rw [ho] at h hev
    simp only [opM] at h
    split at h
    · rename_i v hv
      have hr := hev x (by simp [Op.operands]) _ hv
      have hone : ∀ x ∈ flat v, one1 x = true := by
        unfold CX.newRow at h
        split at h
        · rename_i ho; exact (oneAll_iff _).1 ho
        · cases h
      have hfl := flat_cells hr hone
      obtain ⟨g', h1, h2, h3⟩ := newRow_ok (bar := bar) (ty := t) (slack := []) hS hfl h (w' := w.alloc (.cells (ρe x).cells t)) (by show w.heap.push _ = _; simp) ⟨rfl, rfl, rfl⟩
      refine ⟨_, _, _, h1, val (u := .pointer (some ⟨w.heap.size, 0, none⟩)) ?_ ?_ h2 (agree_put _ _ _) (Nat.le_succ _) h3⟩
      · simp [execOp, ho, Instr.box, newVar, Go.newRow]
      · simp only [Rv]; exact ⟨Nat.lt_succ_self _, _, put_same _ _ _, rfl⟩
    · cases h
  | buildSlice t m ps =>
    rw [ho] at h hev
    simp only [opM] at h
    split at h
    · rename_i e hk
      obtain ⟨d, hd, hkd⟩ := und_of hE hk (by simp)
      simp only [KdOk] at hkd
      subst hkd
      split at h
      · rename_i ety hety
        have hok := hE.T _ _ hety
        obtain ⟨i, z, hi, his, _, hz, hzr, _⟩ := hok.info
        split at h
        · rename_i hle h0
          have hle : m * ety.size ≤ 4096 := by simpa using hle
          have hpos : 0 < ety.size := by
            rcases Nat.eq_zero_or_pos ety.size with h1 | h1
            · rw [h1] at h0; simp at h0
            · exact h1
          obtain ⟨l', x', g1, g2, g3, g4, g5⟩ := fillA_ok (ρ := ρ) (n := n) (ρe := ρe) ps.toList (rep m ety.zero) (repV m z.cells.toList) (fun p hp v hv => hev p.2 (by simp only [Op.operands, List.mem_toArray, List.mem_map]; exact ⟨p, hp, rfl⟩) v hv) (rep_rel (hzr ρ n) m) (rep_mem hok.zone m) h
          have hzl := (hzr ρ n).length
          have hzs : z.cells.size = ety.size := by rw [← Array.length_toList, hzl, hok.zlen]
          obtain ⟨g', h1, h2, h3⟩ := newRow_ok (bar := bar) (ty := e) (slack := []) hS g2 g1 (w' := w.alloc (.cells x'.toArray e)) (by show w.heap.push _ = _; simp) ⟨rfl, rfl, rfl⟩
          refine ⟨_, _, _, h1, val (u := .slice (some ⟨w.heap.size, 0, none⟩) m m) ?_ ?_ h2 (agree_put _ _ _) (Nat.le_succ _) h3⟩
          · have hzero : ((Array.range (m * ety.size)).map (z.cells[· % z.cells.size]!)) = (repV m z.cells.toList).toArray := by
              apply Array.ext'
              have := zeroCells_eq z.cells (by omega) m
              simpa [Builtin.zeroCells, hzs] using this
            have n1 : ¬ (16777216 < m * ety.size) := by omega
            have hfill : Instr.fill (fun i => some (i * ety.size, ety.size)) ((Array.range (m * ety.size)).map (z.cells[· % z.cells.size]!)) (ps.toList.map fun p => (p.1, ρe p.2)) = some x'.toArray := by
              rw [hzero]; exact g5
            by_cases h0' : m * ety.size = 0
            · have hm0 : m = 0 := by
                rcases Nat.mul_eq_zero.1 h0' with h | h
                · exact h
                · omega
              subst hm0
              simp only [Nat.zero_mul, Array.range_zero', Array.map_empty] at hfill
              simp [execOp, ho, Instr.buildSlice, run_underlying hd, run_sizeOf' hi, his, Go.newRow, hfill, Array.range_zero']
            · simp [execOp, ho, Instr.buildSlice, run_underlying hd, run_sizeOf' hi, his, n1, h0', run_zeroValue' hi hz, Go.newRow, hfill]
          · simp only [Rv]; exact ⟨Nat.lt_succ_self _, hpos, Nat.le_refl _, _, put_same _ _ _, rfl⟩
        · cases h
      · cases h
    · cases h
  | makeMap t re =>
    rw [ho] at h hev
    simp only [opM] at h
    have fin : ∀ {r'}, CX.new g n (.map [] 0) (fun h nx' => k (.map n) h nx') = some r' → (execOp ρe o).run P w = .ok (.value (.map (some w.heap.size))) (w.alloc (.map #[] 0)) → ∃ v g' n', k v g' n' = some r' ∧ MOk ρ g.get n w bar ((execOp ρe o).run P w) v g'.get n' := by
      intro r' h hrun
      rw [CX.new, T.set_eq] at h
      obtain ⟨h3, h4⟩ := HSat.new (g' := (g.up n (some (.map [] 0))).get) (bar := bar) (bs := 0) (w' := w.alloc (.map #[] 0)) (o := .map [] 0) hS rfl ⟨rfl, rfl, rfl⟩ (by
        simp only [ObjOk]
        exact ⟨_, #[], put_same _ _ _, alloc_get w _, by simp [RvM]⟩) (fun id => T.get_up _ _ _ _)
      exact ⟨_, _, _, h, val hrun (by simp only [Rv]; exact ⟨Nat.lt_succ_self _, _, put_same _ _ _, rfl⟩) h3 (agree_put _ _ _) (Nat.le_succ _) h4⟩
    split at h
    · exact fin h (by simp [execOp, ho, Instr.makeMap])
    · rename_i kt et x hk
      obtain ⟨d, hd, hkd⟩ := und_of hE hk (by simp)
      simp only [KdOk] at hkd
      subst hkd
      split at h
      · rename_i kd m hx
        have hr := hev x (by simp [Op.operands]) _ hx
        simp only [Rv] at hr
        exact fin h (by simp [execOp, ho, hr, Instr.makeMap, run_underlying hd, asInt, asIntOf])
      · cases h
    · cases h
  | makeSlice t l c =>
    rw [ho] at h hev
    simp only [opM] at h
    split at h
    · rename_i e a b hk ha hb
      obtain ⟨d, hd, hkd⟩ := und_of hE hk (by simp)
      simp only [KdOk] at hkd
      subst hkd
      have hra := hev l (by simp [Op.operands]) _ ha
      have hrb := hev c (by simp [Op.operands]) _ hb
      simp only [Rv] at hra hrb
      split at h
      · rename_i ety hety
        have hok := hE.T _ _ hety
        obtain ⟨i, z, hi, his, hib, hz, hzr, _⟩ := hok.info
        split at h
        · rename_i hc h0
          simp only [Bool.and_eq_true, Nat.ble_eq] at hc
          obtain ⟨⟨hab, hc1⟩, hc2⟩ := hc
          have hc1 : b * ety.size ≤ 4096 := hc1
          have hc2 : b * ety.bytes ≤ 140737488355328 := hc2
          have hpos : 0 < ety.size := by
            rcases Nat.eq_zero_or_pos ety.size with h1 | h1
            · rw [h1] at h0; simp at h0
            · exact h1
          have hb4 : b ≤ 4096 := Nat.le_trans (Nat.le_mul_of_pos_right b hpos) hc1
          rw [fL_eq] at h
          have hzl := (hzr ρ n).length
          have hzs : z.cells.size = ety.size := by rw [← Array.length_toList, hzl, hok.zlen]
          obtain ⟨g', h1, h2, h3⟩ := newRow_ok (bar := bar) (ty := e) (slack := []) hS (rep_rel (hzr ρ n) b) h (w' := w.alloc (.cells (repV b z.cells.toList).toArray e)) (by show w.heap.push _ = _; simp) ⟨rfl, rfl, rfl⟩
          refine ⟨_, _, _, h1, val (u := .slice (some ⟨w.heap.size, 0, none⟩) a b) ?_ ?_ h2 (agree_put _ _ _) (Nat.le_succ _) h3⟩
          · have hrun := run_make (P := P) w t e i z hd hi hz .i64 .i64 (a : Int) (b : Int) (by omega) (by omega) (by rw [hib, ← Int.natCast_mul, Nat.mul_comm]; omega) (by omega)
            have hzero : madeCells z.cells (b * ety.size) = (repV b z.cells.toList).toArray := by
              apply Array.ext'
              have := zeroCells_eq z.cells (by omega) b
              simpa [Builtin.zeroCells, madeCells, hzs] using this
            rw [his] at hrun
            simp only [Int.toNat_natCast, hzero] at hrun
            simp only [execOp, ho, hra, hrb, Int.ofNat_eq_natCast, Sem.run_bind, hrun, Result.andThen_ok, Sem.run_pure]
          · simp only [Rv]; exact ⟨Nat.lt_succ_self _, hpos, hab, _, put_same _ _ _, rfl⟩
        · cases h
      · cases h
    · cases h
  | store t x y =>
    rw [ho] at h hev
    simp only [opM] at h
    split at h
    · rename_i ty id off v hty hx hy
      obtain ⟨i, z, hi, his, _⟩ := (hE.T _ _ hty).info
      have hrx := hev x (by simp [Op.operands]) _ hx
      have hry := hev y (by simp [Op.operands]) _ hy
      simp only [Rv] at hrx
      obtain ⟨hid, L, hL, hu⟩ := hrx
      split at h
      · rename_i hlen
        rw [Nat.beq_eq, len_eq] at hlen
        have hone : ∀ x ∈ flat v, one1 x = true := by
          unfold CX.store at h
          split at h
          · rename_i ho; exact (oneAll_iff _).1 ho
          · cases h
        have hfl := flat_cells hry hone
        obtain ⟨g', w', h1, h2, h3, h4, _⟩ := store_ok (P := P) hS hfl hL h
        have hsz := len_of_flat hfl
        refine ⟨_, _, _, h1, .skip, undef, ρ, w', ?_, .inr ⟨rfl, rfl⟩, by simp only [Rv]; exact ⟨[], by simp [RvL], rfl⟩, h2, agree.refl _ _, Nat.le_refl _, h3⟩
        simp [execOp, ho, hu, Instr.storeAt, Instr.sureAddr, storeVar, run_sizeOf' hi, his, hsz, hlen, h4]
      · cases h
    · cases h
  | mapUpdate t m key v =>
    rw [ho] at h hev
    simp only [opM] at h
    split at h
    · rename_i kt et id kv vv hk hm hkey hv
      obtain ⟨d, hd, hkd⟩ := und_of hE hk (by simp)
      simp only [KdOk] at hkd
      subst hkd
      have hrm := hev m (by simp [Op.operands]) _ hm
      have hrk := hev key (by simp [Op.operands]) _ hkey
      have hrv := hev v (by simp [Op.operands]) _ hv
      simp only [Rv] at hrm
      obtain ⟨hid, L, hL, hu⟩ := hrm
      split at h
      · rename_i l c hg hb
        simp only [Bool.and_eq_true] at hb
        obtain ⟨hbar, hkv⟩ := hb
        have hbar : bar ≤ id := by simpa [geB] using hbar
        obtain ⟨kind, hkind, hkdk⟩ : ∃ kind, P.underlying kt = some kind ∧ KdOk P (kindOf E kt) kind := by
          refine und_of hE rfl fun h0 => ?_
          rw [h0] at hkv
          simp [keyV] at hkv
        obtain ⟨_, hobj⟩ := hS.objs id _ hg
        simp only [ObjOk] at hobj
        obtain ⟨L', es, hL', hh, hmm⟩ := hobj
        rw [hL] at hL'; cases hL'
        have hck : ∀ emp, (Instr.checkKey emp 10000 kt (ρe key)).run P w = .ok () w := fun emp => run_checkKey hkind hkdk hkv emp 9999 w
        obtain ⟨l', f, h1, h2⟩ := setK_ok hkdk hkv hrk hrv c l es.toList 0 hmm h
        rcases h2 with ⟨rfl, hf, hr'⟩ | ⟨rfl, j, u, e, hf, he, hr', hsame⟩
        · simp only at h1
          rw [T.set_eq] at h1
          obtain ⟨ob, hob⟩ : ∃ ob : Obj, ob = .map (es.push { key := ρe key, val := ρe v, born := c }) (c + 1) := ⟨_, rfl⟩
          have hset := run_setMap (P := P) hh ob
          obtain ⟨q1, q2⟩ := setObj_ok (bar := bar) (o' := .map l' (Nat.succ c)) hS hL hg hbar (ob := ob) (w' := { w with heap := w.heap.setIfInBounds L.b ob }) rfl ⟨rfl, rfl, rfl⟩ (by
            simp only [ObjOk]
            exact ⟨L, es.push { key := ρe key, val := ρe v, born := c }, hL, by rw [hob]; exact set_get hh _, by simpa using hr'⟩)
          refine ⟨_, _, _, h1, .skip, undef, ρ, _, ?_, .inr ⟨rfl, rfl⟩, by simp only [Rv]; exact ⟨[], by simp [RvL], rfl⟩, q1, agree.refl _ _, Nat.le_refl _, q2⟩
          simp [execOp, ho, hu, Instr.mapUpdate, run_underlying hd, run_getMap hh, hck, Instr.findKey, run_underlying hkind, hf, ← hob, hset]
        · simp only at h1
          rw [T.set_eq] at h1
          rw [Nat.zero_add] at hf
          have he' : es[j]? = some e := by simpa using he
          have hjlt : j < es.size := (Array.getElem?_eq_some_iff.1 he').1
          obtain ⟨ob, hob⟩ : ∃ ob : Obj, ob = .map (es.modify j fun e => { e with key := ρe key, val := ρe v }) c := ⟨_, rfl⟩
          have hset := run_setMap (P := P) hh ob
          have hes : (es.modify j fun e => { e with key := ρe key, val := ρe v }).toList = es.toList.set j { e with key := ρe key, val := ρe v } := by
            apply List.ext_getElem?
            intro q
            rw [Array.getElem?_toList, Array.getElem?_modify, List.getElem?_set]
            by_cases hq : j = q
            · subst hq
              rw [if_pos rfl, if_pos rfl, if_pos (by simpa using hjlt), he']
              rfl
            · rw [if_neg hq, if_neg hq, Array.getElem?_toList]
          obtain ⟨q1, q2⟩ := setObj_ok (bar := bar) (o' := .map l' c) hS hL hg hbar (ob := ob) (w' := { w with heap := w.heap.setIfInBounds L.b ob }) rfl ⟨rfl, rfl, rfl⟩ (by
            simp only [ObjOk]
            exact ⟨L, es.modify j fun e => { e with key := ρe key, val := ρe v }, hL, by rw [hob]; exact set_get hh _, by rw [hes]; exact hr'⟩)
          have hbits : Instr.sameBits 10000 e.key (ρe key) = true := by
            revert hsame
            generalize e.key = a
            generalize ρe key = b
            intro hs
            unfold Instr.sameNow at hs
            split at hs
            · split at hs
              · simp_all [Instr.sameBits]
              · cases hs
            · simp only [Option.some.injEq] at hs
              simp only [Instr.sameBits]
              rw [beq_toListBytes] at hs ⊢
              rw [beq_iff_eq] at hs ⊢
              exact hs.symm
            · simp_all [Instr.sameBits]
            · cases hs
          refine ⟨_, _, _, h1, .skip, undef, ρ, _, ?_, .inr ⟨rfl, rfl⟩, by simp only [Rv]; exact ⟨[], by simp [RvL], rfl⟩, q1, agree.refl _ _, Nat.le_refl _, q2⟩
          simp [execOp, ho, hu, Instr.mapUpdate, run_underlying hd, run_getMap hh, hck, Instr.findKey, run_underlying hkind, hf, he', Instr.keyThatStays, hbits, ← hob, hset]
      · cases h
    · cases h
  | call c =>
    rw [ho] at h hev
    simp only [opM] at h
    split at h
    · rename_i b hc
      obtain ⟨cs, hrun⟩ := run_builtin (P := P) ho hc ρe
      obtain ⟨vs, h1, h2⟩ := evL_ok' (ρ := ρ) (n := n) (ρe := ρe) c.args.toList (fun x hx => hev x (by simp only [Op.operands, Call.operands, hc, Array.mem_append]; exact .inr (by simpa using hx))) h
      have hargs : c.args.map ρe = (c.args.toList.map ρe).toArray := by apply Array.ext'; simp
      generalize c.args.toList.map ρe = us at h2 hargs
      rw [hargs] at hrun
      cases b <;> simp only [biX] at h1 <;> try cases h1
      · -- append
        split at h1
        · rename_i x y t t' hts
          have hat : c.argTypes = #[t, t'] := by apply Array.ext'; simpa using hts
          match us, h2 with
          | [ux, uy], h2 =>
            simp only [RvL] at h2
            obtain ⟨hx, hy, _⟩ := h2
            split at h1
            · rename_i es e hes hk
              split at h1
              · rename_i ety hety
                split at h1
                · rename_i htt
                  have htt := Nat.eq_of_beq_eq_true htt
                  subst htt
                  split at h1
                  · rename_i m hm
                    rw [fN_eq] at h1
                    obtain ⟨l, xs, g1, g2, g3, g4, g5⟩ := cellsOf_ok hR hS hy h1
                    obtain ⟨v, g', n', q1, u, ρ', w', q2, q3, q4, q5, q6, q7⟩ := appendX_ok (bar := bar) hE hes hk hety o.type hS hx hy hm g2 g4 g3 g5 g1
                    exact ⟨v, g', n', q1, val (by rw [hrun w]; simp [Go.builtin, hat, q2]) q3 q4 q5 q6 q7⟩
                  · cases h1
                · split at h1
                  · rename_i ik kk m hk'
                    obtain ⟨d, hd, hkd⟩ := und_of hE hk' (by simp)
                    simp only [KdOk] at hkd
                    subst hkd
                    simp only [Rv] at hx hy
                    subst hx hy
                    obtain ⟨e', ety', i, z, hu, hety', hk2, hsz, hpos, hi, his, hib, hz, hzr⟩ := elem_ok hE hes
                    rw [hk] at hk2; cases hk2
                    rw [hety] at hety'; cases hety'
                    split at h1
                    · refine ⟨_, _, _, h1, val (u := .slice none 0 0) ?_ (by simp only [Rv]) hS (agree.refl _ _) (Nat.le_refl _) (Fr.refl _ _)⟩
                      rw [hrun w]
                      have hw0 : IntKind.i64.wrap 0 = 0 := by rw [IntKind.wrap_i64]; omega
                      simp [Go.builtin, hat, Builtin.append_, run_underlying hu, run_underlying hd, run_sizeOf' hi, asInt, asIntOf, typeInfo, hi, hw0]
                    · rename_i hm0
                      have hm0 : m ≠ 0 := fun e => hm0 e
                      split at h1
                      · rename_i hc2
                        simp only [Bool.and_eq_true, Nat.ble_eq, roomOk] at hc2
                        obtain ⟨hc3, hb1, hb2⟩ := hc2
                        have hb1 : m * ety.bytes ≤ 4294967296 := hb1
                        rw [fL_eq] at h1
                        unfold grown at h1
                        have hzs : z.cells.size = es := by have := (hzr ρ n).length; rw [← Array.length_toList, this, (hE.T _ _ hety).zlen, hsz]
                        have hge : m ≤ grownCap w m 0 e := grownCap_ge w m 0 e
                        have hrun2 := Lib.run_append_nil_zeros (P := P) w t t' o.type e i z kk ik hu hd hi hz m (Nat.pos_of_ne_zero hm0) (by omega) (by omega) (by rw [hib]; omega)
                        obtain ⟨g', p1, p2, p3⟩ := newRow_ok (bar := bar) (ty := e) (slack := (Builtin.zeroCells z.cells (grownCap w m 0 e - m)).toList) hS (rep_rel (hzr ρ n) m) h1
                          (w' := w.drew.alloc (.cells (Builtin.zeroCells z.cells m ++ Builtin.zeroCells z.cells (grownCap w m 0 e - m)) e)) (by
                            show w.heap.push _ = _
                            congr 2
                            apply Array.ext'
                            simp [zeroCells_eq z.cells (by omega) m]) ⟨rfl, rfl, rfl⟩
                        refine ⟨_, _, _, p1, val (by rw [hrun w]; simp [Go.builtin, hat, hrun2]; rfl) ?_ p2 (agree_put _ _ _) (Nat.le_succ _) p3⟩
                        simp only [Rv]
                        refine ⟨Nat.lt_succ_self _, hpos, _, _, 0, put_same _ _ _, rfl, hge, ?_, .inl rfl⟩
                        have hzc : (Builtin.zeroCells z.cells (grownCap w m 0 e - m)).toList.length = (grownCap w m 0 e - m) * es := by simp [Builtin.zeroCells, hzs]
                        have hzl : z.cells.toList.length = es := by simpa using hzs
                        simp only [List.length_append, repV_len, hzl, hzc, Nat.zero_add, ← Nat.add_mul]
                        congr 1; omega
                      · cases h1
                  · cases h1
              · cases h1
            · cases h1
          | [], h2 => simp [RvL] at h2
          | [_], h2 => simp [RvL] at h2
          | _ :: _ :: _ :: _, h2 => simp [RvL] at h2
        · cases h1
      · -- clear
        split at h1
        · rename_i x t hts
          have hat : c.argTypes = #[t] := by apply Array.ext'; simpa using hts
          match us, h2 with
          | [ux], h2 =>
            simp only [RvL] at h2
            obtain ⟨hx, _⟩ := h2
            have fin0 : ∀ {r'}, k (.tup []) g n = some r' → (Builtin.clear_ c.argTypes o.type #[ux]).run P w = .ok (.tuple #[]) w → ∃ v g' n', k v g' n' = some r' ∧ MOk ρ g.get n w bar ((execOp ρe o).run P w) v g'.get n' := by
              intro r' h hr
              exact ⟨_, _, _, h, val (u := .tuple #[]) (by rw [hrun w]; simp [Go.builtin, hr]) (by simp only [Rv]; exact ⟨[], by simp [RvL], rfl⟩) hS (agree.refl _ _) (Nat.le_refl _) (Fr.refl _ _)⟩
            split at h1
            · rename_i e hk
              obtain ⟨d, hd, hkd⟩ := und_of hE hk (by simp)
              simp only [KdOk] at hkd
              subst hkd
              simp only [Rv] at hx
              subst hx
              exact fin0 h1 (by simp [Builtin.clear_, hat, run_underlying hd])
            · rename_i e id es off m cap hk
              obtain ⟨d, hd, hkd⟩ := und_of hE hk (by simp)
              simp only [KdOk] at hkd
              subst hkd
              split at h1
              · have : ∃ a c', ux = .slice (some a) 0 c' := by
                  cases cap with
                  | none => simp only [Rv] at hx; obtain ⟨_, _, L, c, o, _, hu, _⟩ := hx; exact ⟨_, _, hu⟩
                  | some c => simp only [Rv] at hx; obtain ⟨_, _, _, L, _, hu⟩ := hx; exact ⟨_, _, hu⟩
                obtain ⟨a, c', rfl⟩ := this
                exact fin0 h1 (by simp [Builtin.clear_, hat, run_underlying hd])
              · rename_i hm0
                have hm0 : m ≠ 0 := fun e => hm0 e
                split at h1
                · rename_i ety hety
                  have hok := hE.T _ _ hety
                  obtain ⟨i, z, hi, his, _, hz, hzr, _⟩ := hok.info
                  split at h1
                  · rename_i hes
                    have hes := Nat.eq_of_beq_eq_true hes
                    rw [fL_eq] at h1
                    have : ∃ L c', ρ id = some L ∧ ux = .slice (some ⟨L.b, L.base + off, none⟩) m c' ∧ 0 < es := by
                      cases cap with
                      | none =>
                        simp only [Rv] at hx
                        obtain ⟨_, h0, L, c, o', hL, hu, hle, _, ho'⟩ := hx
                        have : o' = L.base + off := by
                          rcases ho' with h | h
                          · exact h
                          · omega
                        exact ⟨L, c, hL, by rw [hu, this], h0⟩
                      | some c => simp only [Rv] at hx; obtain ⟨_, h0, _, L, hL, hu⟩ := hx; exact ⟨L, c, hL, hu, h0⟩
                    obtain ⟨L, c', hL, rfl, hpos⟩ := this
                    obtain ⟨g', w', p1, p2, p3, p4, _⟩ := store_ok (P := P) hS (rep_rel (hzr ρ n) m) hL h1
                    have hzs : z.cells.size = es := by have := (hzr ρ n).length; rw [← Array.length_toList, this, hok.zlen, hes]
                    have hzc : (Builtin.zeroCells z.cells m).toList = repV m z.cells.toList := zeroCells_eq z.cells (by omega) m
                    refine ⟨_, _, _, p1, val (u := .tuple #[]) ?_ (by simp only [Rv]; exact ⟨[], by simp [RvL], rfl⟩) p2 (agree.refl _ _) (Nat.le_refl _) p3⟩
                    rw [hrun w]
                    have hcl : (Builtin.clear_ c.argTypes o.type #[.slice (some ⟨L.b, L.base + off, none⟩) m c']).run P w = .ok (.tuple #[]) w' := by
                      obtain ⟨m', rfl⟩ : ∃ m', m = m' + 1 := ⟨m - 1, by omega⟩
                      simp [Builtin.clear_, hat, run_underlying hd, run_zeroValue' hi hz, hzc, p4]
                    simp [Go.builtin, hcl]
                  · cases h1
                · cases h1
            · cases h1
          | [], h2 => simp [RvL] at h2
          | _ :: _ :: _, h2 => simp [RvL] at h2
        · cases h1
      · -- copy
        split at h1
        · rename_i x y t ts' hts
          have hat : c.argTypes[0]? = some t := by rw [← Array.getElem?_toList, hts]; rfl
          match us, h2 with
          | [ux, uy], h2 =>
            simp only [RvL] at h2
            obtain ⟨hx, hy, _⟩ := h2
            split at h1
            · rename_i es hes
              obtain ⟨v, g', w', u, q1, q2, q3, q4, q5⟩ := copyX_ok (bar := bar) hE hes hat o.type hR hS hx hy h1
              exact ⟨v, g', n, q1, val (by rw [hrun w]; simp [Go.builtin, q2]) q3 q4 (agree.refl _ _) (Nat.le_refl _) q5⟩
            · cases h1
          | [], h2 => simp [RvL] at h2
          | [_], h2 => simp [RvL] at h2
          | _ :: _ :: _ :: _, h2 => simp [RvL] at h2
        · cases h1
    · cases h
  | _ => rw [ho] at h; simp [opM] at h
end
end
end CX

namespace CX
open Go

def Fw (r : Option Nat) : Fence := { Fence.wide with round := r }

def rdB (ρ : Nm) (rd : Option Nat) : Option Nat := rd.bind fun id => (ρ id).map Loc.b

def exO : Ex → Exit
  | .normal => .normal
  | .ret => .ret
  | .exit id => .exit id

structure Lands (E : Env) (ρ : Nm) (S : St) (w : World) (S' : St) (a' : Act) (w' : World) (ρ' : Nm) : Prop where
  sat : Sat E ρ' S' a' w'
  ag : agree S.nx ρ ρ'
  le : S.nx ≤ S'.nx
  nt : S'.nt = S.nt
  bar : S'.bar = S.bar
  fr : Fr (Own ρ S.h.get S.bar) w (Own ρ' S'.h.get S'.bar) w'

def CPost (E : Env) (ρ : Nm) (S : St) (w : World) (e : Ex) (S' : St) : Exit → Act → World → Prop := fun x a' w' => x = exO e ∧ ∃ ρ', Lands E ρ S w S' a' w' ρ'

def RdOk (ρ : Nm) (n : Nat) (rd : Option Nat) : Prop := ∀ id, rd = some id → id < n ∧ ∃ L, ρ id = some L

def IhOk (E : Env) (P : Program) (ih : IH) : Prop := ∀ rd c S e S', ih rd c S = some (e, S') → ∀ ρ a w, Sat E ρ S a w → RdOk ρ S.nx rd → c.wpIn (Fw (rdB ρ rd)) 0 P (CPost E ρ S w e S') a w

theorem Lands.trans {E : Env} {ρ ρ1 ρ2 : Nm} {S S1 S2 : St} {a1 a2 : Act} {w w1 w2 : World} (h : Lands E ρ S w S1 a1 w1 ρ1) (k : Lands E ρ1 S1 w1 S2 a2 w2 ρ2) : Lands E ρ S w S2 a2 w2 ρ2 :=
  ⟨k.sat, h.ag.trans (k.ag.mono h.le), Nat.le_trans h.le k.le, k.nt.trans h.nt, k.bar.trans h.bar, h.fr.trans k.fr⟩

theorem Sat.lands {E : Env} {ρ : Nm} {S : St} {a : Act} {w : World} (h : Sat E ρ S a w) : Lands E ρ S w S a w ρ := ⟨h, agree.refl _ _, Nat.le_refl _, rfl, rfl, Fr.refl _ _⟩

theorem rdB_ag {ρ ρ' : Nm} {n : Nat} {rd : Option Nat} (h : RdOk ρ n rd) (ha : agree n ρ ρ') : rdB ρ' rd = rdB ρ rd := by
  cases rd with
  | none => rfl
  | some id => simp only [rdB, Option.bind_some, ha id (h id rfl).1]

theorem RdOk.ag {ρ ρ' : Nm} {n m : Nat} {rd : Option Nat} (h : RdOk ρ n rd) (ha : agree n ρ ρ') (hm : n ≤ m) : RdOk ρ' m rd := fun id e => by
  obtain ⟨h1, L, h2⟩ := h id e
  exact ⟨by omega, L, by rw [ha id h1]; exact h2⟩

theorem callsFw {r : Option Nat} {n : Nat} {P : Program} {f : FuncId} {args : Array Value} {w : World} {R : Ending → World → Prop} (h : Calls P f args w R) : CallsIn (Fw r) n P f args w R :=
  callsIn_wide.2 h

theorem outV_ok {β : Type} {x : R} {k : V → T O → Nat → Option β} {r : β} (h : outV x k = some r) :
    ∃ r0 v g n, x = some r0 ∧ k v g n = some r ∧ ∀ v' g' n', retV v' g' n' = some r0 → v' = v ∧ g' = g ∧ n' = n := by
  unfold outV at h
  split at h
  · exact ⟨_, _, _, _, rfl, h, fun v' g' n' e => by simp only [retV, Option.some.injEq, Prod.mk.injEq, St.mk.injEq, T.n.injEq] at e; obtain ⟨_, _, _, ⟨_, e1, _⟩, e2, e3, _⟩ := e; exact ⟨e1, e2, e3⟩⟩
  · cases h

def CallPost (ρ : Nm) (g : Nat → Option O) (n bar : Nat) (w : World) (v : V) (g' : Nat → Option O) (n' : Nat) (e : Ending) (w' : World) : Prop :=
  ∃ u ρ', e = .returned u ∧ Rv ρ' n' v u ∧ HSat ρ' g' n' w' ∧ agree n ρ ρ' ∧ n ≤ n' ∧ Fr (Own ρ g bar) w (Own ρ' g' bar) w'

theorem enterRegs_ok {ρ : Nm} {n : Nat} : ∀ (l : List V) (x : List Value) (i : Nat) (t : T V) {k : T V → R} {r : Ex × St}, enterRegs l i t k = some r → RvL ρ n l x →
    ∃ t', k t' = some r ∧ ∀ j v, t'.get j = some v → (∃ u, i ≤ j ∧ x[j - i]? = some u ∧ Rv ρ n v u) ∨ t.get j = some v
  | [], [], i, t, k, r, h, _ => ⟨t, h, fun j v hj => .inr hj⟩
  | v :: l, u :: x, i, t, k, r, h, hr => by
    simp only [RvL] at hr
    simp only [enterRegs] at h
    rw [T.set_eq] at h
    obtain ⟨t', h1, h2⟩ := enterRegs_ok l x (Nat.succ i) _ h hr.2
    refine ⟨t', h1, fun j w hj => ?_⟩
    rcases h2 j w hj with ⟨u', h3, h4, h5⟩ | h3
    · exact .inl ⟨u', by omega, by rw [show j - i = (j - Nat.succ i) + 1 by omega]; simpa using h4, h5⟩
    · rw [T.get_up] at h3
      split at h3
      · rename_i e
        subst e
        simp only [Option.some.injEq] at h3
        subst h3
        exact .inl ⟨u, Nat.le_refl _, by simp, hr.1⟩
      · exact .inr h3
  | [], _ :: _, _, _, _, _, _, hr => by simp [RvL] at hr
  | _ :: _, [], _, _, _, _, _, hr => by simp [RvL] at hr

theorem enterRegs_len {ρ : Nm} {n : Nat} {l : List V} {x : List Value} (hr : RvL ρ n l x) {k : T V → R} {r : Ex × St} (h : enterRegs l 0 .e k = some r) {nt : Nat} (hn : len l ≤ nt) :
    ∃ t', k t' = some r ∧ RegsOk ρ n t' (x.toArray ++ Array.replicate (nt - x.toArray.size) undef) ∧ (x.toArray ++ Array.replicate (nt - x.toArray.size) undef).size = nt := by
  have hlen := hr.length
  rw [len_eq] at hn
  obtain ⟨t', h1, h2⟩ := enterRegs_ok l x 0 .e h hr
  refine ⟨t', h1, fun j v hj => ?_, by simp; omega⟩
  rcases h2 j v hj with ⟨u, _, h3, h4⟩ | h3
  · refine ⟨u, ?_, h4⟩
    simp only [Nat.sub_zero] at h3
    have := (List.getElem?_eq_some_iff.1 h3).1
    rw [Array.getElem?_append_left (by simpa using this)]
    simpa using h3
  · simp [T.get] at h3

section
variable {P : Program} {E : Env} {n bar : Nat} {F : Fence}

theorem takeDf_ok {ρ : Nm} {n bar : Nat} : ∀ (l : List Nat) (ds : List Deferred) (h : T O) (w : World) {k : T O → R} {r : Ex × St}, takeDf bar l h k = some r → HSat ρ h.get n w → RvD ρ n l ds →
    ∃ h' w', k h' = some r ∧ HSat ρ h'.get n w' ∧ Fr (Own ρ h.get bar) w (Own ρ h'.get bar) w' ∧
      ∀ fn tm R, LeavesInM F 0 P fn tm R [] .returning w' → LeavesInM F 0 P fn tm R ds .returning w
  | [], [], h, w, k, r, hk, hS, _ => ⟨h, w, hk, hS, Fr.refl _ _, fun _ _ _ h => h⟩
  | d :: l, x :: ds, h, w, k, r, hk, hS, hD => by
    simp only [RvD] at hD
    obtain ⟨hd, ⟨L, hL, hx⟩, hD⟩ := hD
    simp only [takeDf] at hk
    split at hk
    · rename_i hg hb
      rw [T.set_eq] at hk
      have hob := (hS.objs d _ hg).2
      simp only [ObjOk] at hob
      obtain ⟨L', hL', hh⟩ := hob
      rw [hL] at hL'; cases hL'
      obtain ⟨h1, h2⟩ := setObj_ok (bar := bar) hS hL hg (by simpa [geB] using hb) (o' := .dfr false) (ob := .deferred none) (w' := w.putObj L.b (.deferred none)) rfl ⟨rfl, rfl, rfl⟩
        (by simp only [ObjOk]; exact ⟨L, hL, World.putObj_heap_same (hS.blk d L hL)⟩)
      obtain ⟨h', w', h3, h4, h5, h6⟩ := takeDf_ok l ds _ _ hk h1 hD
      refine ⟨h', w', h3, h4, h2.trans h5, fun fn tm R hR => ?_⟩
      refine ⟨by simp, .inl ⟨L.b, _, by rw [hx], ?_, h6 fn tm R hR⟩⟩
      exact run_takeDeferred (by simpa using hh)
    · cases hk
  | [], _ :: _, _, _, _, _, _, _, hD => by simp [RvD] at hD
  | _ :: _, [], _, _, _, _, _, _, hD => by simp [RvD] at hD

def resSem (tmps : Array Value) : ResultVar → Sem Value
  | .tmp t => pure (tmps.getD t undef)
  | .cell y t => do loadVar t (← asAddr (tmps.getD y undef))

variable (hE : EnvOk E P)
include hE

theorem resultsX_ok {ρ : Nm} {g : T O} {w : World} (hS : HSat ρ g.get n w) {regs : T V} {tm : Array Value} (hR : RegsOk ρ n regs tm) : ∀ (l : List ResultVar) {k : List V → R} {r : Ex × St}, resultsX E regs g l k = some r →
    ∃ vs us, k vs = some r ∧ RvL ρ n vs us ∧ (l.mapM (resSem tm)).run P w = .ok us w
  | [], k, r, h => ⟨[], [], h, by simp [RvL], by simp⟩
  | .tmp t :: l, k, r, h => by
    simp only [resultsX] at h
    split at h
    · rename_i v hv
      obtain ⟨vs, us, h1, h2, h3⟩ := resultsX_ok hS hR l h
      obtain ⟨u, hu, hr⟩ := hR t v hv
      refine ⟨v :: vs, u :: us, h1, by simp only [RvL]; exact ⟨hr, h2⟩, ?_⟩
      rw [List.mapM_cons, Sem.run_bind]
      simp only [resSem, Sem.run_pure, Result.andThen_ok]
      rw [Sem.run_bind, h3, Result.andThen_ok, Sem.run_pure, Array.getD_eq_getD_getElem?, hu]
      rfl
    · cases h
  | .cell y t :: l, k, r, h => by
    simp only [resultsX] at h
    split at h
    · rename_i ty id off hty hy
      split at h
      · rename_i c m hg
        split at h
        · rename_i hle
          have hle : off + ty.size ≤ m := by simpa using hle
          obtain ⟨u0, hu0, hr0⟩ := hR y _ hy
          simp only [Rv] at hr0
          obtain ⟨_, L, hL, rfl⟩ := hr0
          obtain ⟨l1, xs, L', cur, tt, h1, h2, h3, h4, h5, h6, h7, h8, h9, h10⟩ := cells_read hS hg hle h
          rw [hL] at h5; cases h5
          obtain ⟨v, u, g1, g2, g3⟩ := run_loadVar hE hty w ⟨L.b, L.base + off, none⟩ h3 h2 h10 h1
          obtain ⟨vs, us, f1, f2, f3⟩ := resultsX_ok hS hR l g1
          refine ⟨v :: vs, u :: us, f1, by simp only [RvL]; exact ⟨g2, f2⟩, ?_⟩
          have haddr : tm.getD y undef = .pointer (some ⟨L.b, L.base + off, none⟩) := by rw [Array.getD_eq_getD_getElem?, hu0]; rfl
          rw [List.mapM_cons, Sem.run_bind]
          have : (resSem tm (.cell y t)).run P w = .ok u w := by simp [resSem, haddr, asAddr, g3]
          rw [this, Result.andThen_ok, Sem.run_bind, f3, Result.andThen_ok, Sem.run_pure]
        · cases h
      · cases h
    · cases h

omit hE in
theorem results_run {fn : Func} {tm : Array Value} {w : World} {us : List Value} (h : (fn.results.toList.mapM (resSem tm)).run P w = .ok us w) {ρ : Nm} {vs : List V} (hv : RvL ρ n vs us) :
    ∃ u, (results fn tm).run P w = .ok u w ∧ Rv ρ n (one vs) u := by
  have e : (results fn tm).run P w = .ok (let vs := us.toArray; if h : vs.size = 1 then vs[0] else .tuple vs) w := by
    have e1 : results fn tm = (do
        let vs ← fn.results.mapM (resSem tm)
        pure (if h : vs.size = 1 then vs[0] else .tuple vs)) := by
      unfold results
      congr 1
    rw [e1, Array.mapM_eq_mapM_toList, map_eq_pure_bind, Sem.run_bind, Sem.run_bind, h, Result.andThen_ok, Sem.run_pure, Result.andThen_ok, Sem.run_pure]
  rw [e]
  refine ⟨_, rfl, ?_⟩
  match vs, us, hv with
  | [], [], hv => simp [one, Rv, RvL]
  | [v], [u], hv => simpa [one, RvL] using hv
  | v :: v' :: vs, u :: u' :: us, hv => simp only [one, Rv]; exact ⟨_, hv, by simp⟩
  | [], _ :: _, hv => simp [RvL] at hv
  | _ :: _, [], hv => simp [RvL] at hv
  | [_], _ :: _ :: _, hv => simp [RvL] at hv
  | _ :: _ :: _, [_], hv => simp [RvL] at hv

variable {ih : IH} (hI : IhOk E P ih)
include hI

theorem callF_ok {ρ : Nm} {g : T O} {w : World} (hRo : RoOk E ρ g.get bar w) (hS : HSat ρ g.get n w) {f : Nat} {args : List V} {xs : List Value} (ha : RvL ρ n args xs) {k : V → T O → Nat → R} {r : Ex × St} (h : callF E ih bar g n f args k = some r) :
    ∃ v g' n' fn, k v g' n' = some r ∧ E.fn f = some fn ∧ fn.body.isSome = true ∧ ∀ ro, CallsIn (Fw ro) 0 P f xs.toArray w (CallPost ρ g.get n bar w v g'.get n') := by
  unfold callF at h
  split at h
  · rename_i fn hfn
    obtain ⟨hf, hname⟩ := hE.fn f fn hfn
    split at h
    · rename_i c hb hle
      split at h
      · rename_i b hext
        split at h
        · have hx : xs = [] := by
            cases xs with
            | nil => rfl
            | cons _ _ => simp [RvL] at ha
          subst hx
          refine ⟨_, _, _, fn, h, hfn, by simp [hb], fun ro => callsFw ((hE.ext f b hext w).mono fun e w' he => ?_)⟩
          obtain ⟨rfl, h1, h2, h3, h4, h5⟩ := he
          refine ⟨.bool b, ρ, rfl, by simp only [Rv], ⟨fun id o ho => ⟨(hS.objs id o ho).1, ObjOk.ext (hS.objs id o ho).1 (Nat.le_refl _) (fun _ _ _ h => h) (fun L hL => h5 _ (hS.blk id L hL)) o (hS.objs id o ho).2⟩, hS.sep, hS.dom, fun id L hL => Nat.lt_of_lt_of_le (hS.blk id L hL) h4⟩, agree.refl _ _, Nat.le_refl _, ⟨h1, h2, h3, h4, fun b hb _ => h5 b hb, fun _ h => .inl h⟩⟩
        · cases h
      obtain ⟨regs, h1, h2, h3⟩ := enterRegs_len ha h (by simpa using hle)
      have hSat : Sat E ρ ⟨fn.ntmps, bar, regs, g, n, []⟩ { tmps := xs.toArray ++ Array.replicate (fn.ntmps - xs.toArray.size) undef, defers := [] } w := ⟨hS, h3, h2, by simp [RvD], hRo⟩
      have fin : ∀ {e : Ex} {nt' bar' : Nat} {regs' : T V} {h' : T O} {nx' : Nat} {df' : List Nat}, ih none c ⟨fn.ntmps, bar, regs, g, n, []⟩ = some (e, ⟨nt', bar', regs', h', nx', df'⟩) → (e = .normal ∨ e = .ret) →
          outV (takeDf bar df' h' fun h => resultsX E regs' h fn.results.toList fun l => retV (one l) h nx') k = some r →
          ∃ v g' n' fn, k v g' n' = some r ∧ E.fn f = some fn ∧ fn.body.isSome = true ∧ ∀ ro, CallsIn (Fw ro) 0 P f xs.toArray w (CallPost ρ g.get n bar w v g'.get n') := by
        intro e nt' bar' regs' h' nx' df' he hee hk
        obtain ⟨r0, v, g', n', hr0, hk, hv⟩ := outV_ok hk
        refine ⟨v, g', n', fn, hk, hfn, by simp [hb], fun ro => ?_⟩
        have hw := hI none c _ _ _ he ρ _ w hSat (fun _ h => by cases h)
        refine callsFw (callsIn_wide.1 (callsIn_of_wp_marks hf hb trivial (wpIn_mono hw ?_)))
        rintro x a' w' ⟨rfl, ρ', hL⟩
        have hlv : LeavesInM Fence.wide 0 P fn a'.tmps (CallPost ρ g.get n bar w v g'.get n') a'.defers .returning w' := by
          obtain ⟨h2, w2, e1, e2, e3, e4⟩ := takeDf_ok (P := P) df' a'.defers h' w' hr0 hL.sat.hs hL.sat.df
          obtain ⟨vs, us, f1, f2, f3⟩ := resultsX_ok hE e2 hL.sat.regs _ e1
          obtain ⟨rfl, rfl, rfl⟩ := hv _ _ _ f1
          obtain ⟨u, d1, d2⟩ := results_run f3 f2
          refine e4 _ _ _ ?_
          simp only [LeavesInM, LeavesIn]
          have hbar := hL.bar
          simp only at hbar
          subst hbar
          exact ⟨u, d1, u, ρ', rfl, d2, e2, hL.ag, hL.le, hL.fr.trans e3⟩
        rcases hee with rfl | rfl
        · exact hlv
        · exact hlv
      split at h1
      · rename_i he
        exact fin he (.inl rfl) h1
      · rename_i he
        exact fin he (.inr rfl) h1
      · cases h1
    · cases h
  · cases h
end
end CX

namespace CX
open Go

theorem setLoop_ok {bar : Nat} {h : T O} {id : Nat} {st : LoopState} {j : Option Code} {k : T O → R} {r : Ex × St} (hk : setLoop bar h id st j k = some r) :
    ∃ st0 j0 nt regs ps a b df, h.get id = some (.loop st0 j0 nt regs ps a b df) ∧ bar ≤ id ∧ k (h.up id (some (.loop st j nt regs ps a b df))) = some r := by
  unfold setLoop at hk
  split at hk
  · rename_i hg hb
    rw [T.set_eq] at hk
    exact ⟨_, _, _, _, _, _, _, _, hg, by simpa [geB] using hb, hk⟩
  · cases hk

section
variable {P : Program} {n bar : Nat}

theorem loopObj {ρ : Nm} {g : Nat → Option O} {w : World} (hS : HSat ρ g n w) {id : Nat} {st : LoopState} {j : Option Code} {nt : Nat} {regs : T V} {ps : List Nat} {a b : Code} {df : Nat} (hg : g id = some (.loop st j nt regs ps a b df)) :
    ∃ L D fn tm, id < n ∧ ρ id = some L ∧ df < n ∧ ρ df = some D ∧ tm.size = nt ∧ RegsOk ρ n regs tm ∧ w.heap[L.b]? = some (.loop { state := st, pending := j, fn := fn, tmps := tm, params := ps.toArray, assign := a, body := b, defers := D.b }) ∧ L.b < w.heap.size := by
  obtain ⟨h0, h⟩ := hS.objs id _ hg
  simp only [ObjOk] at h
  obtain ⟨L, fn, tm, D, h1, h2, h3, h4, h5, h6⟩ := h
  exact ⟨L, D, fn, tm, h0, h1, h2, h3, h4, h5, h6, hS.blk _ _ h1⟩

theorem putLoop_ok {ρ : Nm} {g : T O} {w : World} (hS : HSat ρ g.get n w) {id : Nat} {st : LoopState} {j : Option Code} {nt : Nat} {regs : T V} {ps : List Nat} {a b : Code} {df : Nat} (hg : g.get id = some (.loop st j nt regs ps a b df)) (hbar : bar ≤ id)
    {L D : Loc} {fn : FuncId} {tm : Array Value} (h1 : ρ id = some L) (h2 : df < n) (h3 : ρ df = some D) (h4 : tm.size = nt) (h5 : RegsOk ρ n regs tm) (st' : LoopState) (j' : Option Code) :
    HSat ρ (g.up id (some (.loop st' j' nt regs ps a b df))).get n (w.putObj L.b (.loop { state := st', pending := j', fn := fn, tmps := tm, params := ps.toArray, assign := a, body := b, defers := D.b })) ∧
    Fr (Own ρ g.get bar) w (Own ρ (g.up id (some (.loop st' j' nt regs ps a b df))).get bar) (w.putObj L.b (.loop { state := st', pending := j', fn := fn, tmps := tm, params := ps.toArray, assign := a, body := b, defers := D.b })) :=
  setObj_ok (bar := bar) hS h1 hg hbar rfl ⟨rfl, rfl, rfl⟩ (by
    simp only [ObjOk]
    exact ⟨L, fn, tm, D, h1, h2, h3, h4, h5, World.putObj_heap_same (hS.blk _ _ h1)⟩)

theorem paramsX_ok {ρ : Nm} {nt : Nat} : ∀ (ps : List Nat) (vs : List V) (xs : List Value) (regs : T V) (tm : Array Value) {k : T V → R} {r : Ex × St}, paramsX nt ps vs regs k = some r → RvL ρ n vs xs → RegsOk ρ n regs tm → tm.size = nt →
    ps.length = xs.length ∧ ∃ regs', k regs' = some r ∧ RegsOk ρ n regs' ((ps.zip xs).foldl (fun tm (t, a) => tm.setIfInBounds t a) tm) ∧ ((ps.zip xs).foldl (fun tm (t, a) => tm.setIfInBounds t a) tm).size = nt
  | [], [], [], regs, tm, k, r, h, _, hR, hs => ⟨rfl, regs, h, hR, hs⟩
  | p :: ps, v :: vs, x :: xs, regs, tm, k, r, h, hv, hR, hs => by
    simp only [RvL] at hv
    simp only [paramsX] at h
    split at h
    · rename_i hp
      rw [T.set_eq] at h
      have hp : p < nt := by simpa [Nat.blt_eq] using hp
      have hR' : RegsOk ρ n (regs.up p (some v)) (tm.setIfInBounds p x) := by
        intro t y ht
        rw [T.get_up] at ht
        split at ht
        · rename_i e
          subst e
          simp only [Option.some.injEq] at ht
          subst ht
          exact ⟨x, by simp [hs, hp], hv.1⟩
        · rename_i e
          obtain ⟨u, h1, h2⟩ := hR t y ht
          exact ⟨u, by rw [Array.getElem?_setIfInBounds_ne (Ne.symm e)]; exact h1, h2⟩
      obtain ⟨h1, h2⟩ := paramsX_ok ps vs xs _ _ h hv.2 hR' (by simpa using hs)
      exact ⟨by simp [h1], by simpa using h2⟩
    · cases h
  | [], [], _ :: _, _, _, _, _, _, hv, _, _ => by simp [RvL] at hv
  | [], _ :: _, _, _, _, _, _, h, _, _, _ => by simp [paramsX] at h
  | _ :: _, [], _, _, _, _, _, h, _, _, _ => by simp [paramsX] at h
  | _ :: _, _ :: _, [], _, _, _, _, _, hv, _, _ => by simp [RvL] at hv

variable {E : Env} {ih : IH} (hI : IhOk E P ih)
include hI

theorem callY_ok {ρ : Nm} {g : T O} {w : World} (hRo : RoOk E ρ g.get bar w) (hS : HSat ρ g.get n w) {id : Nat} {L : Loc} (hL : ρ id = some L) {args : List V} {xs : List Value} (ha : RvL ρ n args xs) {k : V → T O → Nat → R} {r : Ex × St} (h : callY ih bar g n id args k = some r) :
    ∃ v g' n' f tm assign body, k v g' n' = some r ∧ (Instr.yield L.b xs.toArray).run P w = .ok (.round L.b f tm assign body) w ∧
      ∀ ro, RoundIn (Fw ro) 0 P L.b f tm assign body w (CallPost ρ g.get n bar w v g'.get n') := by
  unfold callY at h
  split at h
  · rename_i j0 nt regs ps assign body df hg
    obtain ⟨L', D, fn, tm, hid, hL', hdf, hD, hsz, hR, hh, hb⟩ := loopObj hS hg
    rw [hL] at hL'; cases hL'
    obtain ⟨hlen, regs1, h, hR1, hsz1⟩ := paramsX_ok _ _ _ _ _ h ha hR hsz
    have hrun : (Instr.yield L.b xs.toArray).run P w = .ok (.round L.b fn ((ps.zip xs).foldl (fun tm (t, a) => tm.setIfInBounds t a) tm) assign body) w := by
      rw [run_yield hh (by simp [hlen])]
      simp
    have hSat : Sat E ρ ⟨nt, bar, regs1, g, n, []⟩ { tmps := (ps.zip xs).foldl (fun tm (t, a) => tm.setIfInBounds t a) tm, defers := [] } w := ⟨hS, hsz1, hR1, by simp [RvD], hRo⟩
    have hrd : RdOk ρ n (some id) := fun i e => by cases e; exact ⟨hid, L, hL⟩
    split at h
    · rename_i nt1 bar1 regs2 g1 n1 df1 he1
      split at h
      · rename_i j2 nt2 regs3 ps2 a2 b2 df2 hg1 hbar
        rw [T.set_eq] at h
        have hw1 := hI (some id) assign _ _ _ he1 ρ _ w hSat hrd
        rw [show rdB ρ (some id) = some L.b by simp [rdB, hL]] at hw1
        have fin : ∀ {e : Ex} {S3 : St} {st : LoopState} {j : Option Code} {b : Bool}, ih (some id) body ⟨nt, bar, regs2, g1.up id (some (.loop .busy j2 nt2 regs3 ps2 a2 b2 df2)), n1, df1⟩ = some (e, S3) →
            (∀ R w3, (∃ v w4, (Instr.endRound L.b j).run P w3 = .ok v w4 ∧ R (.returned v) w4) → ∀ a3, roundPost P L.b R (exO e) a3 w3) → b = j.isNone → st = (if j.isNone then .ready else .done) →
            outV (setLoop bar S3.h id st j fun h => retV (.bool b) h S3.nx) k = some r →
            ∃ v g' n' f tm assign body, k v g' n' = some r ∧ (Instr.yield L.b xs.toArray).run P w = .ok (.round L.b f tm assign body) w ∧
              ∀ ro, RoundIn (Fw ro) 0 P L.b f tm assign body w (CallPost ρ g.get n bar w v g'.get n') := by
          intro e S3 st j b he2 hround hbj hst hk
          obtain ⟨r0, v, g', n', hr0, hk, hv⟩ := outV_ok hk
          refine ⟨v, g', n', fn, _, assign, body, hk, hrun, fun ro => roundIn_of_wpIn trivial (wpIn_mono hw1 ?_)⟩
          rintro x a1 w1 ⟨rfl, ρ1, hL1⟩
          have e1 := hL1.nt
          have e2 := hL1.bar
          simp only at e1 e2
          subst e1 e2
          obtain ⟨L1, D1, fn1, tm1, hid1, hLL1, hdf1, hD1, hsz1', hR1', hh1, hb1⟩ := loopObj hL1.sat.hs hg1
          have hLe : L1 = L := by rw [hL1.ag id hid] at hLL1; rw [hL] at hLL1; exact (Option.some.inj hLL1).symm
          subst hLe
          obtain ⟨hS2, hF2⟩ := putLoop_ok hL1.sat.hs hg1 (by simpa [geB] using hbar) hLL1 hdf1 hD1 hsz1' hR1' (fn := fn1) .busy j2
          refine ⟨_, run_beginRound hh1 rfl, ?_⟩
          have hSat2 : Sat E ρ1 ⟨nt1, bar1, regs2, g1.up id (some (.loop .busy j2 nt2 regs3 ps2 a2 b2 df2)), n1, df1⟩ a1 (w1.putObj L1.b (.loop { state := .busy, pending := j2, fn := fn1, tmps := tm1, params := ps2.toArray, assign := a2, body := b2, defers := D1.b })) := by
            exact ⟨hS2, hL1.sat.size, hL1.sat.regs, hL1.sat.df, hL1.sat.ro.fr hF2⟩
          have hw2 := hI (some id) body _ _ _ he2 ρ1 a1 _ hSat2 (fun i e => by cases e; exact ⟨hid1, L1, hLL1⟩)
          rw [show rdB ρ1 (some id) = some L1.b by simp [rdB, hLL1]] at hw2
          refine wpIn_mono hw2 ?_
          rintro x a3 w3 ⟨rfl, ρ3, hL3⟩
          refine hround _ _ ?_ _
          have e2 := hL3.bar
          simp only at e2
          subst e2
          obtain ⟨st0, j0', nt3, regs4, ps3, a3', b3, df3, hg3, hbar3, hr0⟩ := setLoop_ok hr0
          obtain ⟨L3, D3, fn3, tm3, hid3, hLL3, hdf3, hD3, hsz3, hR3, hh3, hb3⟩ := loopObj hL3.sat.hs hg3
          have hLe3 : L3 = L1 := by rw [hL3.ag id hid1] at hLL3; rw [hLL1] at hLL3; exact (Option.some.inj hLL3).symm
          subst hLe3
          obtain ⟨hS4, hF4⟩ := putLoop_ok hL3.sat.hs hg3 hbar3 hLL3 hdf3 hD3 hsz3 hR3 (fn := fn3) st j
          obtain ⟨rfl, rfl, rfl⟩ := hv _ _ _ hr0
          refine ⟨_, _, run_endRound j hh3, .bool j.isNone, ρ3, rfl, by simp only [Rv]; rw [hbj], ?_, hL1.ag.trans (hL3.ag.mono hL1.le), Nat.le_trans hL1.le hL3.le, ?_⟩
          · subst hst; exact hS4
          · subst hst; exact ((hL1.fr.trans hF2).trans hL3.fr).trans hF4
        split at h
        · rename_i he2
          exact fin he2 (fun R w3 hx a3 => hx) rfl rfl h
        · rename_i he2
          exact fin he2 (fun R w3 hx a3 => hx) rfl rfl h
        · rename_i he2
          exact fin he2 (fun R w3 hx a3 => hx) rfl rfl h
        · cases h
      · cases h
    · cases h
  · cases h

variable (hE : EnvOk E P)
include hE

theorem opA_ok {ρ : Nm} {g : T O} {w : World} (hRo : RoOk E ρ g.get bar w) (hS : HSat ρ g.get n w) {o : Oper} {ev : Operand → Option V} {a : Act} (hev : ∀ x ∈ o.op.operands, ∀ v, ev x = some v → Rv ρ n v (a.eval x))
    {k : V → T O → Nat → R} {r : Ex × St} (h : opA E ih bar ev g n o.op k = some r) :
    ∃ v g' n', k v g' n' = some r ∧ ∀ (ro : Option Nat) (K : Act → World → Prop) (Q : Exit → Act → World → Prop),
      (∀ u ρ' w', Rv ρ' n' v u → HSat ρ' g'.get n' w' → agree n ρ ρ' → n ≤ n' → Fr (Own ρ g.get bar) w (Own ρ' g'.get bar) w' → K (a.put o.dst u) w') → o.wpIn (Fw ro) 0 P a w K Q := by
  have nd : ∀ m, clsOf E o.op = m → m ≠ 4 → ∀ c, o.op ≠ .defer c := by
    intro m hm hne c hc
    rw [hc] at hm
    simp [clsOf] at hm
    exact hne hm.symm
  unfold opA at h
  split at h
  · rename_i hc
    obtain ⟨v, u, h1, h2, h3⟩ := opP_ok hE (ρe := a.eval) hev h
    refine ⟨v, g, n, h1, fun ro K Q hK => ⟨fun _ _ => trivial, ?_⟩⟩
    show o.uponIn (Fw ro) 0 P a K Q ((o.semAt ro a.eval).run P w)
    rw [Oper.semAt_eq _ _ _ (nd _ hc (by decide)), h3 w, Oper.uponIn_value]
    exact hK u ρ w h2 hS (agree.refl _ _) (Nat.le_refl _) (Fr.refl _ _)
  · rename_i hc
    obtain ⟨v, u, h1, h2, h3⟩ := opL_ok hE hRo.at_ hS (ρe := a.eval) hev hc h
    refine ⟨v, g, n, h1, fun ro K Q hK => ⟨fun _ _ => trivial, ?_⟩⟩
    show o.uponIn (Fw ro) 0 P a K Q ((o.semAt ro a.eval).run P w)
    rw [Oper.semAt_eq _ _ _ (nd _ hc (by decide)), h3, Oper.uponIn_value]
    exact hK u ρ w h2 hS (agree.refl _ _) (Nat.le_refl _) (Fr.refl _ _)
  · rename_i hc
    obtain ⟨v, g', n', h1, nxt, u, ρ', w', h2, h3, h4, h5, h6, h7, h8⟩ := opM_ok hE hRo.at_ hS (ρe := a.eval) hev h
    refine ⟨v, g', n', h1, fun ro K Q hK => ⟨fun _ _ => trivial, ?_⟩⟩
    show o.uponIn (Fw ro) 0 P a K Q ((o.semAt ro a.eval).run P w)
    rw [Oper.semAt_eq _ _ _ (nd _ hc (by decide)), h2]
    have := hK u ρ' w' h4 h5 h6 h7 h8
    rcases h3 with rfl | ⟨rfl, rfl⟩
    · exact this
    · exact this
  · rename_i hc
    split at h
    · rename_i c ho
      split at h
      · rename_i f hcal
        split at h
        · rename_i fv hf
          have hfr := hev f (by simp [ho, Op.operands, Call.operands, hcal]) _ hf
          obtain ⟨vs, h1, h2⟩ := evL_ok' c.args.toList (ρe := a.eval) (fun x hx v => hev x (by simp [ho, Op.operands, Call.operands, hcal]; exact .inr (by simpa using hx)) v) h
          unfold callV at h1
          split at h1
          · rename_i f' fa fb
            simp only [Rv] at hfr
            obtain ⟨xa, xb, g1, g2, g3⟩ := hfr
            obtain ⟨v, g', n', fn, e1, e2, e3, e4⟩ := callF_ok hE hI hRo hS (RvL.append (RvL.append g1 h2) g2) h1
            obtain ⟨hfn, hname⟩ := hE.fn _ _ e2
            have hname' : ¬ fn.name = "runtime.NumGoroutine" := hname
            refine ⟨v, g', n', e1, fun ro K Q hK => ⟨fun _ _ => trivial, ?_⟩⟩
            show o.uponIn (Fw ro) 0 P a K Q ((o.semAt ro a.eval).run P w)
            have hrun : (execOp a.eval o).run P w = .ok (.enter f' (xa ++ c.args.toList.map a.eval ++ xb).toArray) w := by
              simp [execOp, ho, resolve, hcal, g3, Deferred.ofValue, invoke, callFunc, hfn, hname', Option.isNone_iff_eq_none, Option.isSome_iff_ne_none.1 e3]
              try apply Array.ext'
              try simp
            rw [Oper.semAt_eq _ _ _ (nd _ hc (by decide)), hrun, Oper.uponIn_enter]
            refine ⟨fun h => by simp [Fw, Fence.wide] at h, CallsIn.mono (e4 ro) fun e w' he => ?_⟩
            obtain ⟨u, ρ', rfl, d1, d2, d3, d4, d5⟩ := he
            exact hK u ρ' w' d1 d2 d3 d4 d5
          · rename_i id
            simp only [Rv] at hfr
            obtain ⟨hid, L, xa, xb, hL, g1, g2, g3⟩ := hfr
            have e0 : xa = [] ∧ xb = [] := by
              constructor
              · cases xa with
                | nil => rfl
                | cons => simp [RvL] at g1
              · cases xb with
                | nil => rfl
                | cons => simp [RvL] at g2
            obtain ⟨rfl, rfl⟩ := e0
            obtain ⟨v, g', n', f', tm, as0, bd, e1, e2, e3⟩ := callY_ok hI hRo hS hL h2 h1
            refine ⟨v, g', n', e1, fun ro K Q hK => ⟨fun _ _ => trivial, ?_⟩⟩
            show o.uponIn (Fw ro) 0 P a K Q ((o.semAt ro a.eval).run P w)
            have hrun : (execOp a.eval o).run P w = .ok (.round L.b f' tm as0 bd) w := by
              rw [← e2]
              simp [execOp, ho, resolve, hcal, g3, Deferred.ofValue, invoke]
              congr 2
              apply Array.ext'
              simp
            rw [Oper.semAt_eq _ _ _ (nd _ hc (by decide)), hrun, Oper.uponIn_round]
            refine ⟨fun h => by simp [Fw, Fence.wide] at h, RoundIn.mono (e3 ro) fun e w' he => ?_⟩
            obtain ⟨u, ρ', rfl, d1, d2, d3, d4, d5⟩ := he
            exact hK u ρ' w' d1 d2 d3 d4 d5
          · cases h1
        · cases h
      · cases h
    · cases h
  · cases h
end
end CX

namespace CX
open Go

theorem conv1_ok {ρ : Nm} {n : Nat} {u : Value} {v : V} (h : conv1 u = some v) : Rv ρ n v u := by
  unfold conv1 at h
  split at h <;> first | cases h; done | skip
  all_goals (simp only [Option.some.injEq] at h; subst h)
  all_goals simp only [Rv]
  rename_i s
  refine ⟨fun x hx => ?_, ?_⟩
  · obtain ⟨b, _, rfl⟩ := List.mem_map.1 hx
    exact b.toNat_lt
  · congr 1
    simp only [bytesOf, List.map_map]
    have : (UInt8.ofNat ∘ UInt8.toNat) = id := by funext x; simp
    rw [this, List.map_id]

theorem convL_ok {ρ : Nm} {n : Nat} : ∀ (us : List Value) {vs : List V}, convL us = some vs → RvL ρ n vs us
  | [], vs, h => by simp only [convL, Option.some.injEq] at h; subst h; simp [RvL]
  | u :: us, vs, h => by
    simp only [convL] at h
    split at h
    · rename_i v l hv hl
      simp only [Option.some.injEq] at h
      subst h
      simp only [RvL]
      exact ⟨conv1_ok hv, convL_ok us hl⟩
    · cases h

theorem conv_ok {ρ : Nm} {n : Nat} {u : Value} {v : V} (h : conv u = some v) : Rv ρ n v u := by
  unfold conv at h
  split at h
  · split at h
    · rename_i cs l hl
      simp only [Option.some.injEq] at h
      subst h
      simp only [Rv]
      exact ⟨_, convL_ok _ hl, rfl⟩
    · cases h
  · exact conv1_ok h

theorem evR_ok {ρ : Nm} {n : Nat} {regs : T V} {a : Act} (hR : RegsOk ρ n regs a.tmps) (x : Operand) (v : V) (h : evR regs x = some v) : Rv ρ n v (a.eval x) := by
  cases x with
  | tmp t =>
    obtain ⟨u, h1, h2⟩ := hR t v h
    have : a.eval (.tmp t) = u := by simp [Act.eval, Array.getD_eq_getD_getElem?, h1]
    rw [this]; exact h2
  | const c => exact conv_ok h
  | func f =>
    simp only [evR, Option.some.injEq] at h
    subst h
    simp only [Rv]
    exact ⟨[], [], by simp [RvL], by simp [RvL], rfl⟩
  | «global» g => cases h

noncomputable def upD (regs : T V) (dst : Option Nat) (v : V) : T V :=
  match dst with
  | none => regs
  | some d => regs.up d (some v)

theorem putD_ok {S : St} {dst : Option Nat} {v : V} {h : T O} {nx : Nat} {k : St → R} {r : Ex × St} (hk : putD S dst v h nx k = some r) :
    k ⟨S.nt, S.bar, upD S.regs dst v, h, nx, S.df⟩ = some r ∧ ∀ d, dst = some d → d < S.nt := by
  cases dst with
  | none => exact ⟨hk, fun d h => by cases h⟩
  | some d =>
    simp only [putD] at hk
    split at hk
    · rename_i hd
      rw [T.set_eq] at hk
      exact ⟨hk, fun d' h => by cases h; simpa [Nat.blt_eq] using hd⟩
    · cases hk

theorem put_ok {ρ : Nm} {n nt : Nat} {regs : T V} {a : Act} {dst : Option Nat} {v : V} {u : Value} (hR : RegsOk ρ n regs a.tmps) (hv : Rv ρ n v u) (hs : a.tmps.size = nt) (hd : ∀ d, dst = some d → d < nt) :
    RegsOk ρ n (upD regs dst v) (a.put dst u).tmps ∧ (a.put dst u).tmps.size = nt ∧ (a.put dst u).defers = a.defers := by
  cases dst with
  | none => exact ⟨hR, hs, rfl⟩
  | some d =>
    refine ⟨fun t y ht => ?_, by simp [Act.put, hs], rfl⟩
    have hd := hd d rfl
    simp only [upD] at ht
    rw [T.get_up] at ht
    simp only [Act.put]
    split at ht
    · rename_i e
      subst e
      simp only [Option.some.injEq] at ht
      subst ht
      exact ⟨u, by simp [hs, hd], hv⟩
    · rename_i e
      obtain ⟨u', h1, h2⟩ := hR t y ht
      exact ⟨u', by rw [Array.getElem?_setIfInBounds_ne (Ne.symm e)]; exact h1, h2⟩

theorem wantX_ok {regs : T V} {all : Array Oper} {o : Oper} {k : Bool → R} {r : Ex × St} (h : wantX regs all.toList o k = some r) {ρ : Nm} {n : Nat} {a : Act} (hR : RegsOk ρ n regs a.tmps) :
    k (Region.wanted o (yielded all a.tmps)) = some r := by
  unfold wantX at h
  split at h
  · rename_i hg
    simpa [Region.wanted, hg] using h
  · rename_i g want hg
    split at h
    · rename_i og hog
      split at h
      · rename_i d hd
        rw [nth_eq] at hog
        have hd' : (all[g]?).bind (·.dst) = some d := by
          rw [Array.getElem?_toList] at hog
          simp [hog, hd]
        split at h
        · rename_i b hb
          obtain ⟨u, h1, h2⟩ := hR d _ hb
          simp only [Rv] at h2
          subst h2
          have hw : Region.wanted o (yielded all a.tmps) = (b == want) := by
            simp only [Region.wanted, hg, yielded, hd', Option.bind_some, h1]
            cases b <;> cases want <;> rfl
          rw [hw]
          split at h
          · exact h
          · exact h
          · rename_i h3 h4
            cases b <;> cases want <;> first | exact h | exact (h3 rfl rfl).elim | exact (h4 rfl rfl).elim
        · rename_i hb
          obtain ⟨u, h1, h2⟩ := hR d _ hb
          simp only [Rv] at h2
          obtain ⟨x, hx, rfl⟩ := h2
          have hw : Region.wanted o (yielded all a.tmps) = false := by
            simp only [Region.wanted, hg, yielded, hd', Option.bind_some, h1]
            cases want <;> rfl
          rw [hw]; exact h
        · cases h
      · cases h
    · cases h

section
variable {P : Program} {E : Env} (hE : EnvOk E P) {ih : IH} (hI : IhOk E P ih) {ro : Option Nat}
include hE hI

theorem seqOps_ok (all : Array Oper) {ρ0 : Nm} {S0 : St} {w0 : World} : ∀ (rest : List Oper) (i : Nat) (S : St) {k : St → R} {r : Ex × St}, (∀ (j : Nat), rest[j]? = all[i + j]?) → seqOps E ih all.toList rest S k = some r →
    ∀ {ρ : Nm} {a : Act} {w : World}, Lands E ρ0 S0 w0 S a w ρ → ∀ {Q : Exit → Act → World → Prop}, (∀ S' ρ' a' w', k S' = some r → Lands E ρ0 S0 w0 S' a' w' ρ' → Q .normal a' w') →
    wpOpsIn (Fw ro) 0 P all Q (List.range' i rest.length) a w
  | [], i, S, k, r, _, h, ρ, a, w, hL, Q, hQ => by
    simp only [List.length_nil, List.range'_zero, wpOpsIn]
    exact hQ S ρ a w h hL
  | o :: rest, i, S, k, r, hall, h, ρ, a, w, hL, Q, hQ => by
    have h0 : all[i]? = some o := by simpa using (hall 0).symm
    have hall' : ∀ (j : Nat), rest[j]? = all[i + 1 + j]? := fun j => by have := hall (j + 1); simpa [Nat.add_assoc, Nat.add_comm 1 j] using this
    simp only [List.length_cons, List.range'_succ, wpOpsIn, h0]
    simp only [seqOps] at h
    have h := wantX_ok h hL.sat.regs
    cases hw : Region.wanted o (yielded all a.tmps) with
    | true =>
      rw [hw] at h
      simp only at h
      rw [if_pos rfl]
      obtain ⟨v, g', n', h1, h2⟩ := opA_ok hI hE hL.sat.ro hL.sat.hs (fun x _ v hv => evR_ok hL.sat.regs x v hv) h
      refine h2 ro _ _ fun u ρ' w' hv hS' hag hn hfr => ?_
      obtain ⟨h3, hd⟩ := putD_ok h1
      have hR' : RegsOk ρ' n' S.regs a.tmps := hL.sat.regs.ext hn (fun i L hi hl => by rw [hag i hi]; exact hl)
      obtain ⟨g1, g2, g3⟩ := put_ok hR' hv hL.sat.size hd
      exact seqOps_ok all rest (i + 1) _ hall' h3 (hL.trans ⟨⟨hS', g2, g1, by rw [g3]; exact hL.sat.df.ext hn (fun i L hi hl => by rw [hag i hi]; exact hl), hL.sat.ro.fr hfr⟩, hag, hn, rfl, rfl, hfr⟩) hQ
    | false =>
      rw [hw] at h
      simp only at h
      simp only [Bool.false_eq_true, if_false]
      refine ⟨fun _ _ => trivial, ?_⟩
      obtain ⟨h3, hd⟩ := putD_ok h
      obtain ⟨g1, g2, g3⟩ := put_ok (u := undef) hL.sat.regs (v := .tup []) (by simp only [Rv]; exact ⟨[], by simp [RvL], rfl⟩) hL.sat.size hd
      exact seqOps_ok all rest (i + 1) _ hall' h3 (hL.trans ⟨⟨hL.sat.hs, g2, g1, by rw [g3]; exact hL.sat.df, hL.sat.ro⟩, agree.refl _ _, Nat.le_refl _, rfl, rfl, Fr.refl _ _⟩) hQ
end
end CX

namespace CX
open Go


theorem bit_eq (m i : Nat) : bit m i = m.testBit i := by
  rw [Nat.testBit_eq_decide_div_mod_eq]
  unfold bit
  rw [Bool.eq_iff_iff, Nat.beq_eq, decide_eq_true_eq]
  rw [show Nat.shiftRight m i = m / 2 ^ i from Nat.shiftRight_eq_div_pow m i, show Nat.land (m / 2 ^ i) 1 = m / 2 ^ i % 2 from Nat.and_one_is_mod _]

theorem lor_bit (a m e j : Nat) : (Nat.lor a (Nat.lor m (Nat.shiftLeft 1 e))).testBit j = true ↔ a.testBit j = true ∨ m.testBit j = true ∨ j = e := by
  show (a ||| (m ||| 1 <<< e)).testBit j = true ↔ _
  rw [Nat.testBit_or, Nat.testBit_or, Nat.testBit_shiftLeft]
  have : (decide (j ≥ e) && Nat.testBit 1 (j - e)) = true ↔ j = e := by
    rw [Bool.and_eq_true, decide_eq_true_eq, Nat.testBit_one_eq_true_iff_self_eq_zero]
    omega
  rw [Bool.or_eq_true, Bool.or_eq_true, this]

theorem maskOf_ok {β : Type} {cl : T Nat} : ∀ (l : List Edge) (acc : Nat) {k : Nat → Option β} {r : β}, maskOf cl l acc k = some r →
    ∃ m, k m = some r ∧ (∀ j, m.testBit j = true → acc.testBit j = true ∨ ∃ e ∈ l, bindsA e = true ∧ (j = e.on ∨ ∃ me, cl.get e.on = some me ∧ me.testBit j = true)) ∧
      (∀ e ∈ l, bindsA e = true → ∃ me, cl.get e.on = some me ∧ m.testBit e.on = true) ∧ (∀ j, acc.testBit j = true → m.testBit j = true)
  | [], acc, k, r, h => ⟨acc, h, fun j hj => .inl hj, fun e he => by simp at he, fun _ h => h⟩
  | e :: l, acc, k, r, h => by
    simp only [maskOf] at h
    split at h
    · rename_i hb
      obtain ⟨m, h1, h2, h3, h4⟩ := maskOf_ok l acc h
      refine ⟨m, h1, fun j hj => (h2 j hj).imp id fun ⟨e', g1, g2⟩ => ⟨e', by simp [g1], g2⟩, fun e' he' hbe => ?_, h4⟩
      rcases List.mem_cons.1 he' with rfl | he'
      · rw [hb] at hbe; cases hbe
      · exact h3 e' he' hbe
    · rename_i hb
      split at h
      · rename_i me hme
        rw [fN_eq] at h
        obtain ⟨m, h1, h2, h3, h4⟩ := maskOf_ok l _ h
        refine ⟨m, h1, fun j hj => ?_, fun e' he' hbe => ?_, fun j hj => h4 j ((lor_bit _ _ _ _).2 (.inl hj))⟩
        · rcases h2 j hj with h | ⟨e', g1, g2⟩
          · rcases (lor_bit _ _ _ _).1 h with h | h | h
            · exact .inl h
            · exact .inr ⟨e, by simp, hb, .inr ⟨me, hme, h⟩⟩
            · exact .inr ⟨e, by simp, hb, .inl h⟩
          · exact .inr ⟨e', by simp [g1], g2⟩
        · rcases List.mem_cons.1 he' with rfl | he'
          · exact ⟨me, hme, h4 _ ((lor_bit _ _ _ _).2 (.inr (.inr rfl)))⟩
          · exact h3 e' he' hbe
      · cases h

structure PrepOk (ops : List Oper) (ms dm : T Nat) : Prop where
  hm : ∀ (i : Nat) o, ops[i]? = some o → ∃ m, ms.get i = some m ∧ (∀ j, m.testBit j = true → ∃ e ∈ o.after.toList, bindsA e = true ∧ (j = e.on ∨ ∃ me, ms.get e.on = some me ∧ me.testBit j = true)) ∧
    ∀ e ∈ o.after.toList, bindsA e = true → e.on < i
  lt : ∀ i m j, ms.get i = some m → m.testBit j = true → j < i
  hd : ∀ (i : Nat) o d, ops[i]? = some o → o.dst = some d → dm.get d = some i
  nms : ∀ i m, ms.get i = some m → i < ops.length

theorem prep_ok {β : Type} : ∀ (rest pre : List Oper) (ms dm : T Nat) {k : T Nat → T Nat → Option β} {r : β}, prep rest pre.length ms dm k = some r → PrepOk pre ms dm →
    ∃ ms' dm', k ms' dm' = some r ∧ PrepOk (pre ++ rest) ms' dm'
  | [], pre, ms, dm, k, r, h, hp => ⟨ms, dm, h, by simpa using hp⟩
  | o :: rest, pre, ms, dm, k, r, h, hp => by
    simp only [prep] at h
    obtain ⟨m, h, h2, h3, _⟩ := maskOf_ok _ _ h
    rw [T.set_eq] at h
    have old : ∀ i x, ms.get i = some x → (ms.up pre.length (some m)).get i = some x := fun i x hx => by
      rw [T.get_up, if_neg (Nat.ne_of_lt (hp.nms i x hx))]; exact hx
    have back : ∀ i x, i < pre.length → (ms.up pre.length (some m)).get i = some x → ms.get i = some x := fun i x hi hx => by
      rw [T.get_up, if_neg (Nat.ne_of_lt hi)] at hx; exact hx
    have hlt0 : ∀ j, m.testBit j = true → j < pre.length := by
      intro j hj
      rcases h2 j hj with h | ⟨e, he, hb, h⟩
      · simp at h
      · obtain ⟨me, hme, _⟩ := h3 e he hb
        rcases h with rfl | ⟨me', hme', h⟩
        · exact hp.nms _ _ hme
        · rw [hme] at hme'; cases hme'
          exact Nat.lt_trans (hp.lt _ _ _ hme h) (hp.nms _ _ hme)
    have mk : ∀ dm', (∀ (i : Nat) o' d, (pre ++ [o])[i]? = some o' → o'.dst = some d → dm'.get d = some i) → PrepOk (pre ++ [o]) (ms.up pre.length (some m)) dm' := by
      intro dm' hdm
      refine ⟨fun i o' ho => ?_, fun i x j hx hj => ?_, hdm, fun i x hx => ?_⟩
      · by_cases hi : i < pre.length
        · rw [List.getElem?_append_left hi] at ho
          obtain ⟨x, g1, g2, g3⟩ := hp.hm i o' ho
          refine ⟨x, old i x g1, fun j hj => ?_, g3⟩
          obtain ⟨e, he, hb, h⟩ := g2 j hj
          exact ⟨e, he, hb, h.imp id fun ⟨me, hme, hj⟩ => ⟨me, old _ _ hme, hj⟩⟩
        · rw [List.getElem?_append_right (by omega)] at ho
          have hi' : i - pre.length = 0 := by
            cases hh : i - pre.length with
            | zero => rfl
            | succ q => rw [hh] at ho; simp at ho
          have hi : i = pre.length := by omega
          subst hi
          simp only [Nat.sub_self, List.getElem?_cons_zero, Option.some.injEq] at ho
          subst ho
          refine ⟨m, by rw [T.get_up, if_pos rfl], fun j hj => ?_, fun e he hb => ?_⟩
          · rcases h2 j hj with h | ⟨e, he, hb, h⟩
            · simp at h
            · exact ⟨e, he, hb, h.imp id fun ⟨me, hme, hj⟩ => ⟨me, old _ _ hme, hj⟩⟩
          · obtain ⟨me, hme, _⟩ := h3 e he hb
            exact hp.nms _ _ hme
      · rw [T.get_up] at hx
        split at hx
        · rename_i e
          simp only [Option.some.injEq] at hx
          subst hx e
          exact hlt0 j hj
        · exact hp.lt i x j hx hj
      · rw [T.get_up] at hx
        rw [List.length_append]
        split at hx
        · rename_i e; subst e; simp
        · have := hp.nms i x hx; omega
    have fin : ∀ dm', prep rest (Nat.succ pre.length) (ms.up pre.length (some m)) dm' k = some r → (∀ (i : Nat) o' d, (pre ++ [o])[i]? = some o' → o'.dst = some d → dm'.get d = some i) →
        ∃ ms' dm', k ms' dm' = some r ∧ PrepOk (pre ++ o :: rest) ms' dm' := by
      intro dm' h hdm
      have := prep_ok rest (pre ++ [o]) _ dm' (k := k) (r := r) (by simpa using h) (mk dm' hdm)
      simpa using this
    have last : ∀ (i : Nat) o', (pre ++ [o])[i]? = some o' → (pre[i]? = some o' ∧ i < pre.length) ∨ (i = pre.length ∧ o' = o) := by
      intro i o' ho
      by_cases hi : i < pre.length
      · rw [List.getElem?_append_left hi] at ho; exact .inl ⟨ho, hi⟩
      · rw [List.getElem?_append_right (by omega)] at ho
        cases hh : i - pre.length with
        | zero => rw [hh] at ho; simp only [List.getElem?_cons_zero, Option.some.injEq] at ho; exact .inr ⟨by omega, ho.symm⟩
        | succ q => rw [hh] at ho; simp at ho
    split at h
    · rename_i hd
      refine fin dm h fun i o' d ho hdo => ?_
      rcases last i o' ho with ⟨ho, _⟩ | ⟨_, rfl⟩
      · exact hp.hd i o' d ho hdo
      · rw [hd] at hdo; cases hdo
    · rename_i d hd
      split at h
      · rename_i hdn
        rw [T.set_eq] at h
        refine fin _ h fun i o' d' ho hdo => ?_
        rcases last i o' ho with ⟨ho, _⟩ | ⟨hi, rfl⟩
        · have := hp.hd i o' d' ho hdo
          rw [T.get_up, if_neg (fun e => by subst e; rw [hdn] at this; cases this)]
          exact this
        · rw [hd] at hdo
          cases hdo
          rw [T.get_up, if_pos rfl, hi]
      · cases h


noncomputable def partS (h : T O) : List Nat → T O → T O
  | [], t => t
  | x :: r, t => partS h r (t.up x (h.get x))
theorem part_eq {β : Type} (h : T O) : ∀ (F : List Nat) (t : T O) (k : T O → β), part h F t k = k (partS h F t)
  | [], _, _ => rfl
  | x :: r, t, k => by simp only [part, partS]; rw [T.set_eq]; exact part_eq h r _ k
theorem partS_get (h : T O) : ∀ (F : List Nat) (t : T O) (j : Nat), (partS h F t).get j = if j ∈ F then h.get j else t.get j
  | [], t, j => by simp [partS]
  | x :: r, t, j => by
    simp only [partS]
    rw [partS_get h r, T.get_up]
    by_cases h1 : j ∈ r
    · simp [h1]
    · by_cases h2 : j = x
      · subst h2; simp [h1]
      · simp [h1, h2]

noncomputable def copyS (g : T O) : Nat → Nat → T O → T O
  | _, 0, h => h
  | lo, n + 1, h => copyS g (Nat.succ lo) n (h.up lo (g.get lo))
theorem copyN_eq {β : Type} (g : T O) : ∀ (n lo : Nat) (h : T O) (k : T O → β), copyN g lo n h k = k (copyS g lo n h)
  | 0, _, _, _ => rfl
  | n + 1, lo, h, k => by simp only [copyN, copyS]; rw [T.set_eq]; exact copyN_eq g n _ _ k
theorem copyS_get (g : T O) : ∀ (n lo : Nat) (h : T O) (j : Nat), (copyS g lo n h).get j = if lo ≤ j ∧ j < lo + n then g.get j else h.get j
  | 0, lo, h, j => by rw [if_neg (by omega)]; rfl
  | n + 1, lo, h, j => by
    simp only [copyS]
    rw [copyS_get g n, T.get_up]
    by_cases h1 : Nat.succ lo ≤ j ∧ j < Nat.succ lo + n
    · rw [if_pos h1, if_pos (by omega)]
    · rw [if_neg h1]
      by_cases h2 : j = lo
      · subst h2; rw [if_pos rfl, if_pos (by omega)]
      · rw [if_neg h2, if_neg (by omega)]

noncomputable def dropS : Nat → Nat → T O → T O
  | _, 0, h => h
  | lo, n + 1, h => dropS (Nat.succ lo) n (h.up lo none)
theorem dropN_eq {β : Type} : ∀ (n lo : Nat) (h : T O) (k : T O → β), dropN lo n h k = k (dropS lo n h)
  | 0, _, _, _ => rfl
  | n + 1, lo, h, k => by simp only [dropN, dropS]; rw [T.set_eq]; exact dropN_eq n _ _ k
theorem dropS_get : ∀ (n lo : Nat) (h : T O) (j : Nat) (o : O), (dropS lo n h).get j = some o → h.get j = some o ∧ ¬ (lo ≤ j ∧ j < lo + n)
  | 0, lo, h, j, o, hj => ⟨hj, by omega⟩
  | n + 1, lo, h, j, o, hj => by
    simp only [dropS] at hj
    obtain ⟨h1, h2⟩ := dropS_get n _ _ j o hj
    rw [T.get_up] at h1
    split at h1
    · cases h1
    · exact ⟨h1, by omega⟩

noncomputable def withoutS (cl : Nat) : List Rc → T O → T O
  | [], h => h
  | r :: rs, h => match bit cl r.i with
    | true => withoutS cl rs h
    | false => withoutS cl rs (dropS r.lo (Nat.sub r.hi r.lo) h)
theorem without_eq {β : Type} (cl : Nat) : ∀ (rs : List Rc) (h : T O) (k : T O → β), without cl rs h k = k (withoutS cl rs h)
  | [], _, _ => rfl
  | r :: rs, h, k => by
    simp only [without, withoutS]
    cases bit cl r.i with
    | true => exact without_eq cl rs h k
    | false => simp only; rw [dropN_eq]; exact without_eq cl rs _ k
theorem withoutS_get (cl : Nat) : ∀ (rs : List Rc) (h : T O) (j : Nat) (o : O), (withoutS cl rs h).get j = some o → h.get j = some o ∧ ∀ r ∈ rs, bit cl r.i = false → ¬ (r.lo ≤ j ∧ j < r.hi)
  | [], h, j, o, hj => ⟨hj, fun r hr => by simp at hr⟩
  | r :: rs, h, j, o, hj => by
    simp only [withoutS] at hj
    cases hb : bit cl r.i with
    | true =>
      rw [hb] at hj
      obtain ⟨h1, h2⟩ := withoutS_get cl rs h j o hj
      refine ⟨h1, fun r' hr' hb' => ?_⟩
      rcases List.mem_cons.1 hr' with rfl | hr'
      · rw [hb] at hb'; cases hb'
      · exact h2 r' hr' hb'
    | false =>
      rw [hb] at hj
      obtain ⟨h1, h2⟩ := withoutS_get cl rs _ j o hj
      obtain ⟨h3, h4⟩ := dropS_get _ _ _ _ _ h1
      refine ⟨h3, fun r' hr' hb' => ?_⟩
      rcases List.mem_cons.1 hr' with rfl | hr'
      · intro h5
        apply h4
        show r'.lo ≤ j ∧ j < r'.lo + (r'.hi - r'.lo)
        omega
      · exact h2 r' hr' hb'

theorem memN_iff {x : Nat} : ∀ l : List Nat, memN x l = true ↔ x ∈ l
  | [] => by simp [memN]
  | y :: r => by
    simp only [memN]
    split
    · rename_i h
      simp [Nat.eq_of_beq_eq_true h]
    · rename_i h
      have : x ≠ y := fun e => by subst e; simp at h
      simp [memN_iff r, this]
theorem disj_ok : ∀ (a b : List Nat), disj a b = true → ∀ x ∈ a, x ∉ b
  | [], b, _, x, h => by simp at h
  | y :: r, b, h, x, hx => by
    simp only [disj] at h
    split at h
    · cases h
    · rename_i hm
      rcases List.mem_cons.1 hx with rfl | hx
      · exact fun hb => by rw [(memN_iff b).2 hb] at hm; cases hm
      · exact disj_ok r b h x hx
theorem outs_ok {lo hi : Nat} : ∀ (l : List Nat), outs lo hi l = true → ∀ x ∈ l, ¬ (lo ≤ x ∧ x < hi)
  | [], _, x, h => by simp at h
  | y :: r, h, x, hx => by
    simp only [outs] at h
    split at h
    · cases h
    · rename_i hm
      rcases List.mem_cons.1 hx with rfl | hx
      · intro hc
        rw [Bool.and_eq_false_iff] at hm
        rcases hm with hm | hm
        · rw [← Bool.not_eq_true, Nat.ble_eq] at hm; exact hm hc.1
        · rw [← Bool.not_eq_true, Nat.blt_eq] at hm; exact hm hc.2
      · exact outs_ok r h x hx
theorem below_ok {nx : Nat} : ∀ (l : List Nat), below nx l = true → ∀ x ∈ l, x < nx
  | [], _, x, h => by simp at h
  | y :: r, h, x, hx => by
    simp only [below] at h
    split at h
    · rename_i hm
      rcases List.mem_cons.1 hx with rfl | hx
      · simpa [Nat.blt_eq] using hm
      · exact below_ok r h x hx
    · cases h
theorem geL_mem {bar x : Nat} : ∀ l : List Nat, x ∈ geL bar l ↔ x ∈ l ∧ bar ≤ x
  | [] => by simp [geL]
  | y :: r => by
    simp only [geL]
    split
    · rename_i h
      have h : bar ≤ y := by simpa using h
      simp only [List.mem_cons, geL_mem r]
      constructor
      · rintro (rfl | ⟨h1, h2⟩)
        · exact ⟨.inl rfl, h⟩
        · exact ⟨.inr h1, h2⟩
      · rintro ⟨rfl | h1, h2⟩
        · exact .inl rfl
        · exact .inr ⟨h1, h2⟩
    · rename_i h
      have h : ¬ bar ≤ y := by rw [← Nat.ble_eq, h]; simp
      simp only [List.mem_cons, geL_mem r]
      constructor
      · exact fun ⟨h1, h2⟩ => ⟨.inr h1, h2⟩
      · rintro ⟨rfl | h1, h2⟩
        · exact absurd h2 h
        · exact ⟨h1, h2⟩
theorem isNil_ok {l : List Nat} (h : isNil l = true) : l = [] := by cases l <;> simp_all [isNil]

theorem fits_ok {cl : Nat} {fp : Fp} : ∀ (rs : List Rc), fits cl fp rs = true → ∀ r ∈ rs, bit cl r.i = true ∨ pairOk fp r = true
  | [], _, r, h => by simp at h
  | r' :: rs, h, r, hr => by
    simp only [fits] at h
    cases hb : bit cl r'.i with
    | true =>
      rw [hb] at h
      rcases List.mem_cons.1 hr with rfl | hr
      · exact .inl hb
      · exact fits_ok rs h r hr
    | false =>
      rw [hb] at h
      simp only at h
      split at h
      · rename_i hp
        rcases List.mem_cons.1 hr with rfl | hr
        · exact .inr hp
        · exact fits_ok rs h r hr
      · cases h


section
variable {tch Rd cl : Nat → Nat → Prop} {D : Nat → Prop} {len i x m : Nat}

theorem claimA (h2 : ∀ j i, j < i → i < len → tch j x → Rd i x → cl i j) (h3 : ∀ j i, j < i → i < len → Rd j x → tch i x → cl i j) (hD : ∀ a b, D a → cl a b → D b) (hi : ¬ D i) (hil : i < len) (hcl : ∀ b, cl i b → D b)
    (hR : Rd i x) (hm : ∀ t, t < len → tch t x → (t < m ↔ D t)) : ∀ t, t < len → tch t x → (t < m ↔ t < i) := by
  intro t ht htx
  rw [hm t ht htx]
  constructor
  · intro hd
    rcases Nat.lt_trichotomy t i with h | h | h
    · exact h
    · subst h; exact absurd hd hi
    · exact absurd (hD t i hd (h3 i t h ht hR htx)) hi
  · exact fun h => hcl t (h2 t i h hil htx hR)

theorem claimB (h1 : ∀ j i, j < i → i < len → tch j x → tch i x → cl i j) (hD : ∀ a b, D a → cl a b → D b) (hi : ¬ D i) (hil : i < len) (hcl : ∀ b, cl i b → D b) (hix : tch i x) :
    ∀ t, t < len → tch t x → (t < i + 1 ↔ D t ∨ t = i) := by
  intro t ht htx
  constructor
  · intro h
    rcases Nat.lt_or_ge t i with h | h
    · exact .inl (hcl t (h1 t i h hil htx hix))
    · exact .inr (by omega)
  · rintro (hd | rfl)
    · rcases Nat.lt_trichotomy t i with h | h | h
      · omega
      · omega
      · exact absurd (hD t i hd (h1 i t h ht hix htx)) hi
    · omega

theorem sameRange {α : Type} {g : Nat → α} (same : ∀ t, t < len → ¬ tch t x → g (t + 1) = g t) : ∀ (n a b : Nat), a + n = b → b ≤ len → (∀ t, t < len → tch t x → (t < a ↔ t < b)) → g a = g b
  | 0, a, b, h, _, _ => by rw [← h]; rfl
  | n + 1, a, b, h, hb, hh => by
    have h1 : ¬ tch a x := fun ht => by have := (hh a (by omega) ht); omega
    rw [← same a (by omega) h1]
    exact sameRange same n (a + 1) b (by omega) hb fun t ht htx => by
      have := hh t ht htx
      have hne : t ≠ a := fun e => by subst e; exact h1 htx
      omega

theorem sameRange' {α : Type} {g : Nat → α} (same : ∀ t, t < len → ¬ tch t x → g (t + 1) = g t) {a b : Nat} (ha : a ≤ len) (hb : b ≤ len) (hh : ∀ t, t < len → tch t x → (t < a ↔ t < b)) : g a = g b := by
  rcases Nat.le_total a b with h | h
  · exact sameRange same (b - a) a b (by omega) hb hh
  · exact (sameRange same (a - b) b a (by omega) ha (fun t ht htx => (hh t ht htx).symm)).symm
end
end CX

namespace CX
open Go

def Wm (bar : Nat) (fp : Fp) (x : Nat) : Prop :=
  match fp with
  | .all => True
  | .q => False
  | .ls F wr => wr = true ∧ x ∈ F ∧ bar ≤ x
def Nw (g : Nat → St) (i x : Nat) : Prop := (g i).nx ≤ x ∧ x < (g (i + 1)).nx
def Tm (g : Nat → St) (fp : Nat → Fp) (i x : Nat) : Prop := Wm (g i).bar (fp i) x ∨ Nw g i x
def Cl (ms : T Nat) (i j : Nat) : Prop := ∃ m, ms.get i = some m ∧ m.testBit j = true
def Rm (ms : T Nat) (g : Nat → St) (fp : Nat → Fp) (i x : Nat) : Prop :=
  match fp i with
  | .all => True
  | .q => x < (g i).nx ∧ ∀ j, j < i → ¬ Cl ms i j → ¬ Nw g j x
  | .ls F _ => x ∈ F
def Triv (g : Nat → St) (fp : Nat → Fp) (i : Nat) : Prop := fp i = .ls [] false ∧ (g (i + 1)).nx = (g i).nx

def barOf (fp : Fp) (bar nx : Nat) : Nat :=
  match fp with
  | .all => bar
  | .q => nx
  | .ls _ wr => match wr with
    | true => bar
    | false => nx

structure MemStep (E : Env) (ih : IH) (ms dm : T Nat) (g : Nat → St) (fp : Nat → Fp) (i cl : Nat) (o : Oper) (v : V) : Prop where
  ran : ∃ hv h' r0, opA E ih (barOf (fp i) (g i).bar (g i).nx) (evD (g i).regs ms dm i cl) hv (g i).nx o.op retV = some r0 ∧ (∀ v' g' n', retV v' g' n' = some r0 → v' = v ∧ g' = h' ∧ n' = (g (i + 1)).nx) ∧
    (∀ x ob, hv.get x = some ob → (g i).h.get x = some ob ∧ ((fp i = .q → x < (g i).nx) → Rm ms g fp i x)) ∧
    (∀ x, Tm g fp i x → (g (i + 1)).h.get x = h'.get x) ∧ (∀ x, ¬ Tm g fp i x → (g (i + 1)).h.get x = (g i).h.get x)
  bar : (g i).bar ≤ (g i).nx
  mono : (g i).nx ≤ (g (i + 1)).nx
  low : ∀ F wr, fp i = .ls F wr → ∀ x ∈ F, x < (g i).nx

structure StepOk (E : Env) (ih : IH) (all : List Oper) (ms dm : T Nat) (g : Nat → St) (fp : Nat → Fp) (i : Nat) (o : Oper) : Prop where
  nt : (g (i + 1)).nt = (g i).nt
  bar : (g (i + 1)).bar = (g i).bar
  df : (g (i + 1)).df = (g i).df
  ex : ∃ cl v, ms.get i = some cl ∧ (g (i + 1)).regs = upD (g i).regs o.dst v ∧ (∀ d, o.dst = some d → d < (g i).nt) ∧
    ((wantB (g i).regs ms dm i cl all o = some false ∧ v = .tup [] ∧ (g (i + 1)).h = (g i).h ∧ Triv g fp i) ∨
     (wantB (g i).regs ms dm i cl all o = some true ∧ clsOf E o.op = 0 ∧ (∃ r0, opP E (evD (g i).regs ms dm i cl) o.op (fun v => retV v .e 0) = some r0 ∧ ∀ v', retV v' .e 0 = some r0 → v' = v) ∧
        (g (i + 1)).h = (g i).h ∧ Triv g fp i) ∨
     (wantB (g i).regs ms dm i cl all o = some true ∧ MemStep E ih ms dm g fp i cl o v))

section
variable {E : Env} {ih : IH} {all : List Oper} {ms dm : T Nat} {g g' : Nat → St} {fp fp' : Nat → Fp}

theorem Nw.congr {i : Nat} (h : g' i = g i) (h1 : g' (i + 1) = g (i + 1)) (x : Nat) : Nw g' i x ↔ Nw g i x := by unfold Nw; rw [h, h1]
theorem Tm.congr {i : Nat} (h : g' i = g i) (h1 : g' (i + 1) = g (i + 1)) (hf : fp' i = fp i) (x : Nat) : Tm g' fp' i x ↔ Tm g fp i x := by unfold Tm; rw [Nw.congr h h1, h, hf]
theorem Triv.congr {i : Nat} (h : g' i = g i) (h1 : g' (i + 1) = g (i + 1)) (hf : fp' i = fp i) : Triv g' fp' i ↔ Triv g fp i := by unfold Triv; rw [h, h1, hf]
theorem Rm.congr {i : Nat} (h : ∀ k, k ≤ i → g' k = g k) (hf : fp' i = fp i) (x : Nat) : Rm ms g' fp' i x ↔ Rm ms g fp i x := by
  unfold Rm
  rw [hf, h i (Nat.le_refl _)]
  split
  · exact Iff.rfl
  · refine and_congr_right fun _ => forall_congr' fun j => forall_congr' fun hj => forall_congr' fun _ => not_congr ?_
    exact Nw.congr (h j (by omega)) (h (j + 1) (by omega)) x
  · exact Iff.rfl

theorem MemStep.congr {i cl : Nat} {o : Oper} {v : V} (h : ∀ k, k ≤ i + 1 → g' k = g k) (hf : fp' i = fp i) (hm : MemStep E ih ms dm g fp i cl o v) : MemStep E ih ms dm g' fp' i cl o v := by
  have e0 := h i (by omega)
  have e1 := h (i + 1) (by omega)
  obtain ⟨⟨hv, h', r0, a1, a2, a3, a4, a5⟩, b, c, d⟩ := hm
  refine ⟨⟨hv, h', r0, ?_, ?_, fun x ob hx => ?_, fun x hx => ?_, fun x hx => ?_⟩, ?_, ?_, ?_⟩
  · rw [hf, e0]; exact a1
  · rw [e1]; exact a2
  · rw [e0, Rm.congr (fun k hk => h k (by omega)) hf, hf]; exact a3 x ob hx
  · rw [e1]; exact a4 x ((Tm.congr e0 e1 hf x).1 hx)
  · rw [e1, e0]; exact a5 x (fun hn => hx ((Tm.congr e0 e1 hf x).2 hn))
  · rw [e0]; exact b
  · rw [e0, e1]; exact c
  · rw [hf, e0]; exact d

theorem StepOk.congr {i : Nat} {o : Oper} (h : ∀ k, k ≤ i + 1 → g' k = g k) (hf : fp' i = fp i) (hs : StepOk E ih all ms dm g fp i o) : StepOk E ih all ms dm g' fp' i o := by
  have e0 := h i (by omega)
  have e1 := h (i + 1) (by omega)
  obtain ⟨a, b, c, cl, v, d1, d2, d3, d4⟩ := hs
  refine ⟨by rw [e0, e1]; exact a, by rw [e0, e1]; exact b, by rw [e0, e1]; exact c, cl, v, d1, by rw [e0, e1]; exact d2, by rw [e0]; exact d3, ?_⟩
  rcases d4 with ⟨f1, f2, f3, f4⟩ | ⟨f1, f2, f3, f4, f5⟩ | ⟨f1, f2⟩
  · exact .inl ⟨by rw [e0]; exact f1, f2, by rw [e0, e1]; exact f3, (Triv.congr e0 e1 hf).2 f4⟩
  · exact .inr (.inl ⟨by rw [e0]; exact f1, f2, by rw [e0]; exact f3, by rw [e0, e1]; exact f4, (Triv.congr e0 e1 hf).2 f5⟩)
  · exact .inr (.inr ⟨by rw [e0]; exact f1, f2.congr h hf⟩)

structure Tr (E : Env) (ih : IH) (all : List Oper) (ms dm : T Nat) (i : Nat) (g : Nat → St) (fp : Nat → Fp) (recs : List Rc) : Prop where
  st : ∀ (j : Nat) o, j < i → all[j]? = some o → StepOk E ih all ms dm g fp j o
  rc : ∀ r ∈ recs, r.i < i ∧ r.fp = fp r.i ∧ r.lo = (g r.i).nx ∧ r.hi = (g (r.i + 1)).nx
  cov : ∀ j, j < i → (∃ r ∈ recs, r.i = j) ∨ Triv g fp j
  pr : ∀ a b, a < b → b < i → Cl ms b a ∨ Triv g fp b ∨ Triv g fp a ∨ pairOk (fp b) ⟨a, fp a, (g a).nx, (g (a + 1)).nx⟩ = true

theorem putO_ok {β : Type} {S : St} {dst : Option Nat} {v : V} {k : St → Option β} {r : β} (hk : putO S dst v k = some r) :
    k ⟨S.nt, S.bar, upD S.regs dst v, S.h, S.nx, S.df⟩ = some r ∧ ∀ d, dst = some d → d < S.nt := by
  obtain ⟨nt, bar, regs, h, nx, df⟩ := S
  cases dst with
  | none => exact ⟨hk, fun d h => by cases h⟩
  | some d =>
    simp only [putO] at hk
    split at hk
    · rename_i hd
      rw [T.set_eq] at hk
      exact ⟨hk, fun d' h => by cases h; simpa [Nat.blt_eq] using hd⟩
    · cases hk

theorem Tr.snoc {i : Nat} {recs recs' : List Rc} {o : Oper} (hT : Tr E ih all ms dm i g fp recs) (hg : ∀ k, k ≤ i → g' k = g k) (hf : ∀ k, k < i → fp' k = fp k) (ho : all[i]? = some o) (hs : StepOk E ih all ms dm g' fp' i o)
    (hr : (recs' = recs ∧ Triv g' fp' i) ∨ (recs' = ⟨i, fp' i, (g' i).nx, (g' (i + 1)).nx⟩ :: recs ∧ ∃ cl, ms.get i = some cl ∧ fits cl (fp' i) recs = true)) : Tr E ih all ms dm (i + 1) g' fp' recs' := by
  have rcOld : ∀ r ∈ recs, r.i < i + 1 ∧ r.fp = fp' r.i ∧ r.lo = (g' r.i).nx ∧ r.hi = (g' (r.i + 1)).nx := by
    intro r hr
    obtain ⟨h1, h2, h3, h4⟩ := hT.rc r hr
    exact ⟨by omega, by rw [hf _ h1]; exact h2, by rw [hg _ (by omega)]; exact h3, by rw [hg _ (by omega)]; exact h4⟩
  have tv : ∀ j, j < i → (Triv g' fp' j ↔ Triv g fp j) := fun j hj => Triv.congr (hg j (by omega)) (hg (j + 1) (by omega)) (hf j hj)
  refine ⟨fun j o' hj ho' => ?_, fun r hr' => ?_, fun j hj => ?_, fun a b hab hb => ?_⟩
  · by_cases h : j = i
    · subst h; rw [ho] at ho'; cases ho'; exact hs
    · exact (hT.st j o' (by omega) ho').congr (fun k hk => hg k (by omega)) (hf j (by omega))
  · rcases hr with ⟨rfl, _⟩ | ⟨rfl, _⟩
    · exact rcOld r hr'
    · rcases List.mem_cons.1 hr' with rfl | hr'
      · exact ⟨by simp, rfl, rfl, rfl⟩
      · exact rcOld r hr'
  · by_cases h : j = i
    · subst h
      rcases hr with ⟨_, h⟩ | ⟨rfl, _⟩
      · exact .inr h
      · exact .inl ⟨⟨j, fp' j, (g' j).nx, (g' (j + 1)).nx⟩, by simp, rfl⟩
    · rcases hT.cov j (by omega) with ⟨r, h1, h2⟩ | h1
      · refine .inl ⟨r, ?_, h2⟩
        rcases hr with ⟨rfl, _⟩ | ⟨rfl, _⟩
        · exact h1
        · simp [h1]
      · exact .inr ((tv j (by omega)).2 h1)
  · by_cases h : b = i
    · subst h
      rcases hr with ⟨_, h⟩ | ⟨_, cl, hcl, hfit⟩
      · exact .inr (.inl h)
      · rcases hT.cov a hab with ⟨r, h1, h2⟩ | h1
        · subst h2
          rcases fits_ok recs hfit r h1 with h3 | h3
          · exact .inl ⟨cl, hcl, by rw [← bit_eq]; exact h3⟩
          · refine .inr (.inr (.inr ?_))
            obtain ⟨_, e1, e2, e3⟩ := rcOld r h1
            rw [← e1, ← e2, ← e3]
            exact h3
        · exact .inr (.inr (.inl ((tv a hab).2 h1)))
    · have e : (⟨a, fp' a, (g' a).nx, (g' (a + 1)).nx⟩ : Rc) = ⟨a, fp a, (g a).nx, (g (a + 1)).nx⟩ := by rw [hf a (by omega), hg a (by omega), hg (a + 1) (by omega)]
      rw [e, hf b (by omega), tv b (by omega), tv a (by omega)]
      exact hT.pr a b hab (by omega)

def VwP (cl : Nat) (recs : List Rc) (fp : Fp) (x : Nat) : Prop :=
  match fp with
  | .all => True
  | .q => ∀ r ∈ recs, bit cl r.i = false → ¬ (r.lo ≤ x ∧ x < r.hi)
  | .ls F _ => x ∈ F

theorem viewX_ok {β : Type} {cl : Nat} {recs : List Rc} {fp : Fp} {h : T O} {bar nx : Nat} {k : T O → Nat → Option β} {r : β} (hk : viewX cl recs fp h bar nx k = some r) :
    ∃ hv, k hv (barOf fp bar nx) = some r ∧ ∀ x ob, hv.get x = some ob → h.get x = some ob ∧ VwP cl recs fp x := by
  cases fp with
  | all => exact ⟨h, hk, fun x ob hx => ⟨hx, trivial⟩⟩
  | q =>
    simp only [viewX] at hk
    rw [without_eq] at hk
    exact ⟨_, hk, fun x ob hx => withoutS_get _ _ _ _ _ hx⟩
  | ls F wr =>
    simp only [viewX] at hk
    rw [part_eq] at hk
    refine ⟨partS h F .e, ?_, fun x ob hx => ?_⟩
    · cases wr with
      | true => exact hk
      | false => exact hk
    · rw [partS_get] at hx
      split at hx
      · rename_i hm; exact ⟨hx, hm⟩
      · simp [T.get] at hx

theorem mergeX_ok {β : Type} {fp : Fp} {h h' : T O} {bar lo hi : Nat} (hlo : lo ≤ hi) {k : T O → Option β} {r : β} (hk : mergeX fp h h' bar lo hi k = some r) :
    ∃ h2, k h2 = some r ∧ (∀ x, (Wm bar fp x ∨ (lo ≤ x ∧ x < hi)) → h2.get x = h'.get x) ∧ ∀ x, ¬ (Wm bar fp x ∨ (lo ≤ x ∧ x < hi)) → h2.get x = h.get x := by
  have hs : lo + Nat.sub hi lo = hi := by show lo + (hi - lo) = hi; omega
  cases fp with
  | all => exact ⟨h', hk, fun x _ => rfl, fun x hx => absurd (.inl trivial) hx⟩
  | q =>
    simp only [mergeX] at hk
    rw [copyN_eq] at hk
    refine ⟨_, hk, fun x hx => ?_, fun x hx => ?_⟩
    · rw [copyS_get, hs, if_pos (by rcases hx with hx | hx; exact hx.elim; exact hx)]
    · rw [copyS_get, hs, if_neg (fun h => hx (.inr h))]
  | ls F wr =>
    cases wr with
    | true =>
      simp only [mergeX] at hk
      rw [part_eq, copyN_eq] at hk
      refine ⟨_, hk, fun x hx => ?_, fun x hx => ?_⟩
      · rw [copyS_get, hs]
        split
        · rfl
        · rename_i hn
          rcases hx with hx | hx
          · rw [partS_get, if_pos ((geL_mem F).2 hx.2)]
          · exact absurd hx hn
      · rw [copyS_get, hs, if_neg (fun h => hx (.inr h)), partS_get, if_neg (fun h => hx (.inl ⟨rfl, (geL_mem F).1 h⟩))]
    | false =>
      simp only [mergeX] at hk
      rw [copyN_eq] at hk
      refine ⟨_, hk, fun x hx => ?_, fun x hx => ?_⟩
      · rw [copyS_get, hs, if_pos (by rcases hx with hx | hx; exact (by cases hx.1); exact hx)]
      · rw [copyS_get, hs, if_neg (fun h => hx (.inr h))]

theorem stepD_ok {r : List Oper} {o : Oper} {i : Nat} {recs recs' : List Rc} {S' : St} (hk : stepD E ih all ms dm r o i recs (g i) = some (S', recs')) (hT : Tr E ih all ms dm i g fp recs) (ho : all[i]? = some o) :
    ∃ g' fp', Tr E ih all ms dm (i + 1) g' fp' recs' ∧ (∀ k, k ≤ i → g' k = g k) ∧ g' (i + 1) = S' := by
  have mkG : ∀ S' : St, ∃ g' : Nat → St, (∀ k, k ≤ i → g' k = g k) ∧ g' (i + 1) = S' := fun S' => ⟨fun k => if k = i + 1 then S' else g k, fun k hk => if_neg (by omega), if_pos rfl⟩
  have mkF : ∀ f : Fp, ∃ fp' : Nat → Fp, (∀ k, k < i → fp' k = fp k) ∧ fp' i = f := fun f => ⟨fun k => if k = i then f else fp k, fun k hk => if_neg (by omega), if_pos rfl⟩
  unfold stepD at hk
  split at hk
  · cases hk
  · rename_i cl hcl
    split at hk
    · cases hk
    · rename_i hw
      obtain ⟨h1, h2⟩ := putO_ok hk
      simp only [Option.some.injEq, Prod.mk.injEq] at h1
      obtain ⟨rfl, rfl⟩ := h1
      obtain ⟨g', hg, hg1⟩ := mkG ⟨(g i).nt, (g i).bar, upD (g i).regs o.dst (.tup []), (g i).h, (g i).nx, (g i).df⟩
      obtain ⟨fp', hfp, hf1⟩ := mkF (.ls [] false)
      have tv : Triv g' fp' i := by
        unfold Triv; rw [hf1, hg1, hg i (Nat.le_refl _)]; exact ⟨rfl, rfl⟩
      refine ⟨g', fp', hT.snoc hg hfp ho ?_ (.inl ⟨rfl, tv⟩), hg, hg1⟩
      refine ⟨?_, ?_, ?_, cl, .tup [], hcl, ?_, ?_, .inl ⟨?_, rfl, ?_, tv⟩⟩
      all_goals first | rw [hg1, hg i (Nat.le_refl _)] | rw [hg i (Nat.le_refl _)]
      · exact h2
      · exact hw
    · rename_i hw
      split at hk
      · rename_i hc
        obtain ⟨r0, v, g0, n0, hr0, hk, hv⟩ := outV_ok hk
        obtain ⟨h1, h2⟩ := putO_ok hk
        simp only [Option.some.injEq, Prod.mk.injEq] at h1
        obtain ⟨rfl, rfl⟩ := h1
        obtain ⟨g', hg, hg1⟩ := mkG ⟨(g i).nt, (g i).bar, upD (g i).regs o.dst v, (g i).h, (g i).nx, (g i).df⟩
        obtain ⟨fp', hfp, hf1⟩ := mkF (.ls [] false)
        have tv : Triv g' fp' i := by
          unfold Triv; rw [hf1, hg1, hg i (Nat.le_refl _)]; exact ⟨rfl, rfl⟩
        refine ⟨g', fp', hT.snoc hg hfp ho ?_ (.inl ⟨rfl, tv⟩), hg, hg1⟩
        refine ⟨?_, ?_, ?_, cl, v, hcl, ?_, ?_, .inr (.inl ⟨?_, hc, ?_, ?_, tv⟩)⟩
        all_goals first | rw [hg1, hg i (Nat.le_refl _)] | rw [hg i (Nat.le_refl _)]
        · exact h2
        · exact hw
        · exact ⟨r0, hr0, fun v' h => (hv v' _ _ h).1⟩
      · split at hk
        · rename_i f hpick
          unfold memD at hk
          obtain ⟨hgi⟩ : ∃ x, g i = x := ⟨_, rfl⟩
          split at hk
          rename_i nt bar regs h nx df hgi
          split at hk
          · cases hk
          · rename_i hchk
            simp only [Bool.and_eq_true, Nat.ble_eq] at hchk
            obtain ⟨⟨hbel, hfit⟩, hbar⟩ := hchk
            obtain ⟨hv, hk, hview⟩ := viewX_ok hk
            obtain ⟨r0, v, h', nx', hr0, hk, hval⟩ := outV_ok hk
            split at hk
            · cases hk
            · rename_i hmono
              have hmono : nx ≤ nx' := by simpa using hmono
              obtain ⟨h2, hk, hm1, hm2⟩ := mergeX_ok hmono hk
              obtain ⟨h1, hd⟩ := putO_ok hk
              simp only [Option.some.injEq, Prod.mk.injEq] at h1
              obtain ⟨rfl, rfl⟩ := h1
              obtain ⟨g', hg, hg1⟩ := mkG ⟨nt, bar, upD regs o.dst v, h2, nx', df⟩
              obtain ⟨fp', hfp, hf1⟩ := mkF f
              refine ⟨g', fp', hT.snoc hg hfp ho ?_ (.inr ⟨?_, cl, hcl, by rw [hf1]; exact hfit⟩), hg, hg1⟩
              · have e0 := hg i (Nat.le_refl _)
                refine ⟨?_, ?_, ?_, cl, v, hcl, ?_, ?_, .inr (.inr ⟨?_, ⟨hv, h', r0, ?_, ?_, fun x ob hx => ?_, fun x hx => ?_, fun x hx => ?_⟩, ?_, ?_, ?_⟩)⟩
                · rw [hg1, e0, hgi]
                · rw [hg1, e0, hgi]
                · rw [hg1, e0, hgi]
                · rw [hg1, e0, hgi]
                · rw [e0, hgi]; exact hd
                · rw [e0]; exact hw
                · rw [hf1, e0, hgi]; exact hr0
                · rw [hg1]; exact hval
                · rw [e0, hgi]
                  obtain ⟨q1, q2⟩ := hview x ob hx
                  refine ⟨q1, fun hlt => ?_⟩
                  unfold Rm
                  rw [hf1] at hlt
                  rw [hf1, e0, hgi]
                  cases f with
                  | all => trivial
                  | q =>
                    refine ⟨hlt rfl, fun j hj hnc hnw => ?_⟩
                    rw [Nw.congr (hg j (by omega)) (hg (j + 1) (by omega))] at hnw
                    rcases hT.cov j hj with ⟨rc, p1, p2⟩ | p
                    · subst p2
                      obtain ⟨_, _, p3, p4⟩ := hT.rc rc p1
                      refine q2 rc p1 ?_ ⟨by rw [p3]; exact hnw.1, by rw [p4]; exact hnw.2⟩
                      rw [← Bool.not_eq_true, bit_eq]
                      exact fun hb => hnc ⟨cl, hcl, hb⟩
                    · have := p.2; unfold Nw at hnw; omega
                  | ls F wr => exact q2
                · rw [hg1]
                  refine hm1 x ?_
                  unfold Tm Nw at hx
                  rw [hf1, hg1, e0, hgi] at hx
                  exact hx
                · rw [hg1, e0, hgi]
                  refine hm2 x ?_
                  unfold Tm Nw at hx
                  rw [hf1, hg1, e0, hgi] at hx
                  exact hx
                · rw [e0, hgi]; exact hbar
                · rw [hg1, e0, hgi]; exact hmono
                · intro F wr hF x hx
                  rw [hf1] at hF
                  rw [e0, hgi]
                  subst hF
                  exact below_ok F hbel x hx
              · rw [hf1, hg1, hg i (Nat.le_refl _), hgi]
        · cases hk

theorem drawGo_ok : ∀ (rest : List Oper) (i : Nat) (recs : List Rc) (g : Nat → St) (fp : Nat → Fp) {Se : St}, (∀ (j : Nat), rest[j]? = all[i + j]?) → drawGo E ih all ms dm rest i recs (g i) = some Se → Tr E ih all ms dm i g fp recs →
    ∃ g' fp' recs', Tr E ih all ms dm (i + rest.length) g' fp' recs' ∧ (∀ k, k ≤ i → g' k = g k) ∧ g' (i + rest.length) = Se
  | [], i, recs, g, fp, Se, hall, h, hT => by
    simp only [drawGo, Option.some.injEq] at h
    exact ⟨g, fp, recs, hT, fun _ _ => rfl, h⟩
  | o :: rest, i, recs, g, fp, Se, hall, h, hT => by
    have h0 : all[i]? = some o := by simpa using (hall 0).symm
    simp only [drawGo] at h
    split at h
    · rename_i S recs1 hst
      obtain ⟨g1, f1, hT1, hg1, hg2⟩ := stepD_ok hst hT h0
      obtain ⟨g', fp', recs', h1, h2, h3⟩ := drawGo_ok rest (i + 1) recs1 g1 f1 (fun j => by have := hall (j + 1); simpa [Nat.add_assoc, Nat.add_comm 1 j] using this) (by rw [hg2]; exact h) hT1
      refine ⟨g', fp', recs', by rw [List.length_cons, show i + (rest.length + 1) = i + 1 + rest.length by omega]; exact h1, fun k hk => ?_, by rw [List.length_cons, show i + (rest.length + 1) = i + 1 + rest.length by omega]; exact h3⟩
      rw [h2 k (by omega), hg1 k hk]
    · cases h
end
end CX

namespace CX
open Go

section
variable {P : Program} {E : Env} {ih : IH} {all : List Oper} {ms dm : T Nat} {g : Nat → St} {fp : Nat → Fp} {recs : List Rc} {len : Nat}

theorem Tr.at (hT : Tr E ih all ms dm len g fp recs) (hl : len = all.length) {i : Nat} (hi : i < len) : ∃ o, all[i]? = some o ∧ StepOk E ih all ms dm g fp i o := by
  obtain ⟨o, ho⟩ : ∃ o, all[i]? = some o := ⟨all[i]'(by omega), by simp [show i < all.length by omega]⟩
  exact ⟨o, ho, hT.st i o hi ho⟩

theorem StepOk.mono {i : Nat} {o : Oper} (h : StepOk E ih all ms dm g fp i o) : (g i).nx ≤ (g (i + 1)).nx := by
  obtain ⟨_, _, _, cl, v, _, _, _, h | h | h⟩ := h
  · exact Nat.le_of_eq h.2.2.2.2.symm
  · exact Nat.le_of_eq h.2.2.2.2.2.symm
  · exact h.2.mono

theorem StepOk.low {i : Nat} {o : Oper} (h : StepOk E ih all ms dm g fp i o) : ∀ F wr, fp i = .ls F wr → ∀ x ∈ F, x < (g i).nx := by
  obtain ⟨_, _, _, cl, v, _, _, _, h | h | h⟩ := h
  · intro F wr hF x hx; rw [h.2.2.2.1] at hF; cases hF; simp at hx
  · intro F wr hF x hx; rw [h.2.2.2.2.1] at hF; cases hF; simp at hx
  · exact h.2.low

theorem Triv.not {i x : Nat} (h : Triv g fp i) : ¬ Tm g fp i x := by
  unfold Tm Wm Nw
  rw [h.1, h.2]
  rintro (h | h)
  · exact absurd h.1 (by simp)
  · omega

theorem StepOk.same {i : Nat} {o : Oper} (h : StepOk E ih all ms dm g fp i o) (x : Nat) (hx : ¬ Tm g fp i x) : (g (i + 1)).h.get x = (g i).h.get x := by
  obtain ⟨_, _, _, cl, v, _, _, _, h | h | h⟩ := h
  · rw [h.2.2.1]
  · rw [h.2.2.2.1]
  · obtain ⟨_, _, _, _, _, _, _, h⟩ := h.2.ran
    exact h x hx

def TmR (all : List Oper) (i x : Nat) : Prop := ∃ o, all[i]? = some o ∧ o.dst = some x
def RdR (ms dm : T Nat) (i x : Nat) : Prop := dm.get x = none ∨ ∃ j, dm.get x = some j ∧ (Cl ms i j ∨ Cl ms j i)

theorem StepOk.sameR {i : Nat} {o : Oper} (h : StepOk E ih all ms dm g fp i o) (ho : all[i]? = some o) (x : Nat) (hx : ¬ TmR all i x) : (g (i + 1)).regs.get x = (g i).regs.get x := by
  obtain ⟨_, _, _, cl, v, _, h, _, _⟩ := h
  rw [h]
  unfold upD
  split
  · rfl
  · rename_i d hd
    rw [T.get_up, if_neg]
    rintro rfl
    exact hx ⟨o, ho, hd⟩

theorem Cl.lt (hp : PrepOk all ms dm) {i j : Nat} (h : Cl ms i j) : j < i := by
  obtain ⟨m, h1, h2⟩ := h
  exact hp.lt i m j h1 h2

theorem nx_mono (hT : Tr E ih all ms dm len g fp recs) (hl : len = all.length) : ∀ (n a b : Nat), a + n = b → b ≤ len → (g a).nx ≤ (g b).nx
  | 0, a, b, h, _ => by rw [← h]; exact Nat.le_refl _
  | n + 1, a, b, h, hb => by
    obtain ⟨o, _, hs⟩ := hT.at hl (i := a) (by omega)
    exact Nat.le_trans hs.mono (nx_mono hT hl n (a + 1) b (by omega) hb)
theorem nx_le (hT : Tr E ih all ms dm len g fp recs) (hl : len = all.length) {a b : Nat} (h : a ≤ b) (hb : b ≤ len) : (g a).nx ≤ (g b).nx := nx_mono hT hl (b - a) a b (by omega) hb

theorem regT1 (hp : PrepOk all ms dm) {i j x : Nat} (_hij : j < i) (h1 : TmR all j x) (h2 : TmR all i x) : Cl ms i j := by
  obtain ⟨o, ho, hd⟩ := h1
  obtain ⟨o', ho', hd'⟩ := h2
  have e1 := hp.hd j o x ho hd
  have e2 := hp.hd i o' x ho' hd'
  rw [e1] at e2
  cases e2
  omega
theorem regT2 (hp : PrepOk all ms dm) {i j x : Nat} (hij : j < i) (h1 : TmR all j x) (h2 : RdR ms dm i x) : Cl ms i j := by
  obtain ⟨o, ho, hd⟩ := h1
  have e1 := hp.hd j o x ho hd
  rcases h2 with h | ⟨q, h, h'⟩
  · rw [h] at e1; cases e1
  · rw [h] at e1; cases e1
    rcases h' with h' | h'
    · exact h'
    · have := Cl.lt hp h'; omega
theorem regT3 (hp : PrepOk all ms dm) {i j x : Nat} (hij : j < i) (h1 : RdR ms dm j x) (h2 : TmR all i x) : Cl ms i j := by
  obtain ⟨o, ho, hd⟩ := h2
  have e1 := hp.hd i o x ho hd
  rcases h1 with h | ⟨q, h, h'⟩
  · rw [h] at e1; cases e1
  · rw [h] at e1; cases e1
    rcases h' with h' | h'
    · have := Cl.lt hp h'; omega
    · exact h'

theorem memT (hT : Tr E ih all ms dm len g fp recs) (hl : len = all.length) {i j x : Nat} (hij : j < i) (hi : i < len) :
    (Tm g fp j x → Tm g fp i x → Cl ms i j) ∧ (Tm g fp j x → Rm ms g fp i x → Cl ms i j) ∧ (Rm ms g fp j x → Tm g fp i x → Cl ms i j) := by
  by_cases hc : Cl ms i j
  · exact ⟨fun _ _ => hc, fun _ _ => hc, fun _ _ => hc⟩
  obtain ⟨oi, _, hsi⟩ := hT.at hl hi
  obtain ⟨oj, _, hsj⟩ := hT.at hl (i := j) (by omega)
  have hn1 : (g j).nx ≤ (g (j + 1)).nx := hsj.mono
  have hn2 : (g (j + 1)).nx ≤ (g i).nx := nx_le hT hl (by omega) (by omega)
  have lowj := hsj.low
  have tRm : ∀ k, Triv g fp k → ¬ Rm ms g fp k x := by
    intro k hk h
    unfold Rm at h
    rw [hk.1] at h
    simp at h
  rcases hT.pr j i hij hi with h | h | h | h
  · exact absurd h hc
  · exact ⟨fun _ h2 => absurd h2 h.not, fun _ h2 => absurd h2 (tRm i h), fun _ h2 => absurd h2 h.not⟩
  · exact ⟨fun h2 => absurd h2 h.not, fun h2 => absurd h2 h.not, fun h2 => absurd h2 (tRm j h)⟩
  · unfold pairOk at h
    cases hfi : fp i with
    | all => rw [hfi] at h; cases h
    | q =>
      rw [hfi] at h
      cases hfj : fp j with
      | all => rw [hfj] at h; cases h
      | q =>
        unfold Tm Rm Wm
        rw [hfi, hfj]
        simp only [Nw, false_or]
        refine ⟨fun h1 h2 => by omega, fun h1 h2 => absurd h1 ?_, fun h1 h2 => by omega⟩
        have := h2.2 j hij hc
        simpa [Nw] using this
      | ls F wr =>
        rw [hfj] at h
        have hw : wr = true → F = [] := by
          intro e; subst e; exact isNil_ok h
        unfold Tm Rm Wm
        rw [hfi, hfj]
        simp only [Nw, false_or]
        refine ⟨fun h1 h2 => ?_, fun h1 h2 => ?_, fun h1 h2 => ?_⟩
        · rcases h1 with h1 | h1
          · have := lowj F wr hfj x h1.2.1; omega
          · omega
        · rcases h1 with h1 | h1
          · rw [hw h1.1] at h1; simp at h1
          · have := h2.2 j hij hc
            exact absurd h1 (by simpa [Nw] using this)
        · have := lowj F wr hfj x h1; omega
    | ls F wr =>
      rw [hfi] at h
      cases hfj : fp j with
      | all => rw [hfj] at h; cases h
      | q =>
        rw [hfj] at h
        have hw : wr = true → F = [] := by
          intro e; subst e; exact isNil_ok h
        have ho : x ∈ F → ¬ ((g j).nx ≤ x ∧ x < (g (j + 1)).nx) := by
          intro hx
          cases wr with
          | true => rw [hw rfl] at hx; simp at hx
          | false => exact outs_ok F h x hx
        unfold Tm Rm Wm
        rw [hfi, hfj]
        simp only [Nw, false_or]
        refine ⟨fun h1 h2 => ?_, fun h1 h2 => absurd h1 (ho h2), fun h1 h2 => ?_⟩
        · rcases h2 with h2 | h2
          · exact absurd h1 (ho h2.2.1)
          · omega
        · rcases h2 with h2 | h2
          · rw [hw h2.1] at h2; simp at h2
          · omega
      | ls F' wr' =>
        rw [hfj] at h
        simp only at h
        split at h
        · cases h
        · rename_i hout
          have ho := outs_ok F hout x
          have hd : (wr = true ∨ wr' = true) → x ∈ F → x ∈ F' → False := by
            intro hw h1 h2
            cases wr <;> cases wr' <;> first | (simp at hw; done) | exact disj_ok F F' h x h1 h2
          unfold Tm Rm Wm
          rw [hfi, hfj]
          simp only [Nw]
          refine ⟨fun h1 h2 => ?_, fun h1 h2 => ?_, fun h1 h2 => ?_⟩
          · rcases h2 with h2 | h2
            · rcases h1 with h1 | h1
              · exact (hd (.inl h2.1) h2.2.1 h1.2.1).elim
              · exact absurd h1 (ho h2.2.1)
            · rcases h1 with h1 | h1
              · have := lowj F' wr' hfj x h1.2.1; omega
              · omega
          · rcases h1 with h1 | h1
            · exact (hd (.inr h1.1) h2 h1.2.1).elim
            · exact absurd h1 (ho h2)
          · rcases h2 with h2 | h2
            · exact (hd (.inl h2.1) h2.2.1 h1).elim
            · have := lowj F' wr' hfj x h1; omega

structure DInv (ρ0 : Nm) (w0 : World) (all : List Oper) (len : Nat) (g : Nat → St) (fp : Nat → Fp) (D : Nat → Prop) (ρ : Nm) (xh : Nat → Option O) (xr : Nat → Option V) (a : Act) (w : World) : Prop where
  mem : ∀ x, ∃ m, m ≤ len ∧ xh x = (g m).h.get x ∧ (∀ t, t < len → Tm g fp t x → (t < m ↔ D t)) ∧ (m = 0 ∨ ∃ t, m = t + 1 ∧ t < len ∧ Tm g fp t x) ∧ ∀ o, xh x = some o → x < (g m).nx ∧ ObjOk ρ (g m).nx w x o
  reg : ∀ x, ∃ m, m ≤ len ∧ xr x = (g m).regs.get x ∧ (∀ t, t < len → TmR all t x → (t < m ↔ D t)) ∧ (m = 0 ∨ ∃ t, m = t + 1 ∧ t < len ∧ TmR all t x) ∧ ∀ v, xr x = some v → ∃ u, a.tmps[x]? = some u ∧ Rv ρ (g m).nx v u
  sep : ∀ x o x' o', xh x = some o → xh x' = some o' → x ≠ x' → ∀ L L', ρ x = some L → ρ x' = some L' → L.b ≠ L'.b
  blk : ∀ x L, ρ x = some L → L.b < w.heap.size
  dom : ∀ x L, ρ x = some L → x < (g 0).nx ∨ ∃ t, t < len ∧ D t ∧ Nw g t x
  size : a.tmps.size = (g 0).nt
  df : RvD ρ (g 0).nx (g 0).df a.defers
  ag : agree (g 0).nx ρ0 ρ
  fr : Fr (Own ρ0 (g 0).h.get (g 0).bar) w0 (Own ρ xh (g 0).bar) w
  cb : ∀ j, j < len → fp j = .all → D j → ∀ x o, (g (j + 1)).h.get x = some o → x < (g (j + 1)).nx

variable {ρ0 ρ : Nm} {w0 w : World} {D : Nat → Prop} {xh : Nat → Option O} {xr : Nat → Option V} {a : Act}

theorem DInv.memAt (hT : Tr E ih all ms dm len g fp recs) (hl : len = all.length) (hI : DInv ρ0 w0 all len g fp D ρ xh xr a w) (hD : ∀ a b, D a → Cl ms a b → D b) {i : Nat} (hi : ¬ D i) (hil : i < len) (hcl : ∀ b, Cl ms i b → D b) {x : Nat} (hR : Rm ms g fp i x) :
    xh x = (g i).h.get x ∧ ∃ m, m ≤ i ∧ ∀ o, xh x = some o → x < (g m).nx ∧ ObjOk ρ (g m).nx w x o := by
  obtain ⟨m, h1, h2, h3, h4, h5⟩ := hI.mem x
  have hA := claimA (fun j i hj hi => (memT hT hl hj hi).2.1) (fun j i hj hi => (memT hT hl hj hi).2.2) hD hi hil hcl hR h3
  have same : ∀ t, t < len → ¬ Tm g fp t x → (g (t + 1)).h.get x = (g t).h.get x := fun t ht hn => by
    obtain ⟨o, _, hs⟩ := hT.at hl ht
    exact hs.same x hn
  have e := sameRange' (g := fun k => (g k).h.get x) same h1 (Nat.le_of_lt hil) hA
  refine ⟨h2.trans e, m, ?_, h5⟩
  rcases h4 with rfl | ⟨t, rfl, ht, htx⟩
  · omega
  · have := (hA t ht htx).1 (Nat.lt_succ_self t); omega

theorem DInv.regAt (hp : PrepOk all ms dm) (hT : Tr E ih all ms dm len g fp recs) (hl : len = all.length) (hI : DInv ρ0 w0 all len g fp D ρ xh xr a w) (hD : ∀ a b, D a → Cl ms a b → D b) {i : Nat} (hi : ¬ D i) (hil : i < len) (hcl : ∀ b, Cl ms i b → D b) {x : Nat} (hR : RdR ms dm i x) {v : V}
    (hv : (g i).regs.get x = some v) : ∃ m u, m ≤ i ∧ a.tmps[x]? = some u ∧ Rv ρ (g m).nx v u := by
  obtain ⟨m, h1, h2, h3, h4, h5⟩ := hI.reg x
  have hA := claimA (tch := TmR all) (fun j i hj _ => regT2 hp hj) (fun j i hj _ => regT3 hp hj) hD hi hil hcl hR h3
  have same : ∀ t, t < len → ¬ TmR all t x → (g (t + 1)).regs.get x = (g t).regs.get x := fun t ht hn => by
    obtain ⟨o, ho, hs⟩ := hT.at hl ht
    exact hs.sameR ho x hn
  have e := sameRange' (g := fun k => (g k).regs.get x) same h1 (Nat.le_of_lt hil) hA
  obtain ⟨u, h6, h7⟩ := h5 v (by rw [h2, e, hv])
  refine ⟨m, u, ?_, h6, h7⟩
  rcases h4 with rfl | ⟨t, rfl, ht, htx⟩
  · omega
  · have := (hA t ht htx).1 (Nat.lt_succ_self t); omega

theorem getD_ok {regs : T V} {i cl t : Nat} (hcl : ms.get i = some cl) {v : V} (h : getD regs ms dm i cl t = some v) : regs.get t = some v ∧ RdR ms dm i t := by
  unfold getD at h
  split at h
  · rename_i hn; exact ⟨h, .inl hn⟩
  · rename_i j hj
    split at h
    · rename_i hb
      exact ⟨h, .inr ⟨j, hj, .inl ⟨cl, hcl, by rw [← bit_eq]; exact hb⟩⟩⟩
    · split at h
      · rename_i m hm
        split at h
        · rename_i hb
          exact ⟨h, .inr ⟨j, hj, .inr ⟨m, hm, by rw [← bit_eq]; exact hb⟩⟩⟩
        · cases h
      · cases h

theorem DInv.regStep (hp : PrepOk all ms dm) (hI : DInv ρ0 w0 all len g fp D ρ xh xr a w) (hD : ∀ a b, D a → Cl ms a b → D b) {i : Nat} (hi : ¬ D i) (hil : i < len) (hcl : ∀ b, Cl ms i b → D b) {o : Oper} (ho : all[i]? = some o)
    {v : V} {u : Value} {ρ' : Nm} (hr : ∀ x L, ρ x = some L → ρ' x = some L) (hv : Rv ρ' (g (i + 1)).nx v u) (hg : (g (i + 1)).regs = upD (g i).regs o.dst v) (hd : ∀ d, o.dst = some d → d < (g 0).nt) :
    ∀ x, ∃ m, m ≤ len ∧ (if o.dst = some x then some v else xr x) = (g m).regs.get x ∧ (∀ t, t < len → TmR all t x → (t < m ↔ (D t ∨ t = i))) ∧ (m = 0 ∨ ∃ t, m = t + 1 ∧ t < len ∧ TmR all t x) ∧
      ∀ v', (if o.dst = some x then some v else xr x) = some v' → ∃ u', (a.put o.dst u).tmps[x]? = some u' ∧ Rv ρ' (g m).nx v' u' := by
  intro x
  by_cases hx : o.dst = some x
  · have ht : TmR all i x := ⟨o, ho, hx⟩
    refine ⟨i + 1, by omega, ?_, claimB (fun j i hj _ => regT1 hp hj) hD hi hil hcl ht, .inr ⟨i, rfl, hil, ht⟩, fun v' hv' => ?_⟩
    · rw [if_pos hx, hg, hx, upD, T.get_up, if_pos rfl]
    · rw [if_pos hx] at hv'
      cases hv'
      refine ⟨u, ?_, hv⟩
      rw [hx]
      simp [Act.put, hI.size, hd x hx]
  · obtain ⟨m, h1, h2, h3, h4, h5⟩ := hI.reg x
    have hn : ¬ TmR all i x := fun ⟨o', ho', hd'⟩ => by rw [ho] at ho'; cases ho'; exact hx hd'
    refine ⟨m, h1, by rw [if_neg hx]; exact h2, fun t ht htx => ?_, h4, fun v' hv' => ?_⟩
    · rw [h3 t ht htx]
      exact ⟨.inl, fun h => h.resolve_right (fun e => by subst e; exact hn htx)⟩
    · rw [if_neg hx] at hv'
      obtain ⟨u', h6, h7⟩ := h5 v' hv'
      refine ⟨u', ?_, Rv.ext (Nat.le_refl _) (fun i L _ h => hr i L h) _ _ h7⟩
      cases hdst : o.dst with
      | none => exact h6
      | some d =>
        simp only [Act.put]
        rw [Array.getElem?_setIfInBounds_ne (fun e => hx (by rw [hdst, e]))]
        exact h6
end
end CX

namespace CX
open Go

section
variable {P : Program} {E : Env} {ih : IH} {all : List Oper} {ms dm : T Nat} {g : Nat → St} {fp : Nat → Fp} {recs : List Rc} {len : Nat}
variable {ρ0 ρ : Nm} {w0 w : World} {D : Nat → Prop} {xh : Nat → Option O} {xr : Nat → Option V} {a : Act}

theorem const_of (hT : Tr E ih all ms dm len g fp recs) (hl : len = all.length) : ∀ i, i ≤ len → (g i).bar = (g 0).bar ∧ (g i).nt = (g 0).nt ∧ (g i).df = (g 0).df
  | 0, _ => ⟨rfl, rfl, rfl⟩
  | i + 1, h => by
    obtain ⟨o, _, hs⟩ := hT.at hl (i := i) (by omega)
    obtain ⟨h1, h2, h3⟩ := const_of hT hl i (by omega)
    exact ⟨hs.bar.trans h1, hs.nt.trans h2, hs.df.trans h3⟩

theorem DInv.bound (hT : Tr E ih all ms dm len g fp recs) (hl : len = all.length) (hI : DInv ρ0 w0 all len g fp D ρ xh xr a w) (h0 : ∀ x o, (g 0).h.get x = some o → x < (g 0).nx) :
    ∀ i, i ≤ len → (∀ j, j < i → fp j = .all → D j) → ∀ x o, (g i).h.get x = some o → x < (g i).nx
  | 0, _, _, x, o, hx => h0 x o hx
  | i + 1, hi, hj, x, o, hx => by
    obtain ⟨oo, _, hs⟩ := hT.at hl (i := i) (by omega)
    by_cases ht : Tm g fp i x
    · have hmono := hs.mono
      rcases ht with ht | ht
      · unfold Wm at ht
        split at ht
        · rename_i hf
          exact hI.cb i (by omega) hf (hj i (by omega) hf) x o hx
        · exact ht.elim
        · rename_i F wr hf
          have := hs.low F wr hf x ht.2.1
          omega
      · exact ht.2
    · rw [hs.same x ht] at hx
      have := DInv.bound hT hl hI h0 i (by omega) (fun j hji => hj j (by omega)) x o hx
      have := hs.mono
      omega

theorem wantB_ok (hp : PrepOk all ms dm) (hT : Tr E ih all ms dm len g fp recs) (hl : len = all.length) (hI : DInv ρ0 w0 all len g fp D ρ xh xr a w) (hD : ∀ a b, D a → Cl ms a b → D b) {i : Nat} (hi : ¬ D i) (hil : i < len) (hcl : ∀ b, Cl ms i b → D b)
    {ops : Array Oper} (hall : all = ops.toList) {o : Oper} {cl : Nat} (hc : ms.get i = some cl) {b : Bool} (h : wantB (g i).regs ms dm i cl all o = some b) : Region.wanted o (yielded ops a.tmps) = b := by
  subst hall
  unfold wantB at h
  split at h
  · rename_i hg
    simp only [Option.some.injEq] at h
    simp [Region.wanted, hg, h]
  · rename_i gd want hg
    split at h
    · rename_i og hog
      split at h
      · rename_i d hd
        rw [nth_eq, Array.getElem?_toList] at hog
        have hd' : (ops[gd]?).bind (·.dst) = some d := by simp [hog, hd]
        split at h
        · rename_i x hx
          obtain ⟨h1, h2⟩ := getD_ok hc hx
          obtain ⟨m, u, _, h3, h4⟩ := hI.regAt hp hT hl hD hi hil hcl h2 h1
          simp only [Rv] at h4
          subst h4
          have hw : Region.wanted o (yielded ops a.tmps) = (x == want) := by
            simp only [Region.wanted, hg, yielded, hd', Option.bind_some, h3]
            cases x <;> cases want <;> rfl
          rw [hw]
          split at h
          · simp only [Option.some.injEq] at h; subst h; rfl
          · simp only [Option.some.injEq] at h; subst h; rfl
          · rename_i h5 h6
            simp only [Option.some.injEq] at h
            subst h
            cases x <;> cases want <;> first | rfl | exact (h5 rfl rfl).elim | exact (h6 rfl rfl).elim
        · rename_i hx
          obtain ⟨h1, h2⟩ := getD_ok hc hx
          obtain ⟨m, u, _, h3, h4⟩ := hI.regAt hp hT hl hD hi hil hcl h2 h1
          simp only [Rv] at h4
          obtain ⟨y, hy, rfl⟩ := h4
          simp only [Option.some.injEq] at h
          subst h
          simp only [Region.wanted, hg, yielded, hd', Option.bind_some, h3]
          cases want <;> rfl
        · cases h
      · cases h
    · cases h

theorem evD_ok (hp : PrepOk all ms dm) (hT : Tr E ih all ms dm len g fp recs) (hl : len = all.length) (hI : DInv ρ0 w0 all len g fp D ρ xh xr a w) (hD : ∀ a b, D a → Cl ms a b → D b) {i : Nat} (hi : ¬ D i) (hil : i < len) (hcl : ∀ b, Cl ms i b → D b)
    {cl : Nat} (hc : ms.get i = some cl) (x : Operand) (v : V) (h : evD (g i).regs ms dm i cl x = some v) : Rv (fun k => if k < (g i).nx then ρ k else none) (g i).nx v (a.eval x) := by
  cases x with
  | tmp t =>
    obtain ⟨h1, h2⟩ := getD_ok hc h
    obtain ⟨m, u, hm, h3, h4⟩ := hI.regAt hp hT hl hD hi hil hcl h2 h1
    have : a.eval (.tmp t) = u := by simp [Act.eval, Array.getD_eq_getD_getElem?, h3]
    rw [this]
    have hle := nx_le hT hl hm (Nat.le_of_lt hil)
    refine Rv.ext hle (fun k L hk hL => ?_) v u h4
    rw [if_pos (by omega)]; exact hL
  | const c => exact conv_ok h
  | func f =>
    simp only [evD, Option.some.injEq] at h
    subst h
    simp only [Rv]
    exact ⟨[], [], by simp [RvL], by simp [RvL], rfl⟩
  | «global» g => cases h

theorem put_tmps {dst : Option Nat} {u : Value} {n : Nat} (h : a.tmps.size = n) : (a.put dst u).tmps.size = n ∧ (a.put dst u).defers = a.defers := by
  cases dst with
  | none => exact ⟨h, rfl⟩
  | some d => exact ⟨by simp [Act.put, h], rfl⟩

theorem DInv.quiet (hp : PrepOk all ms dm) (hI : DInv ρ0 w0 all len g fp D ρ xh xr a w) (hD : ∀ a b, D a → Cl ms a b → D b) {i : Nat} (hi : ¬ D i) (hil : i < len) (hcl : ∀ b, Cl ms i b → D b)
    {o : Oper} (ho : all[i]? = some o) {v : V} {u : Value} (hv : Rv ρ (g (i + 1)).nx v u) (hg : (g (i + 1)).regs = upD (g i).regs o.dst v) (hd : ∀ d, o.dst = some d → d < (g 0).nt) (ht : Triv g fp i) :
    DInv ρ0 w0 all len g fp (fun t => D t ∨ t = i) ρ xh (fun x => if o.dst = some x then some v else xr x) (a.put o.dst u) w := by
  obtain ⟨hs1, hs2⟩ := put_tmps (dst := o.dst) (u := u) hI.size
  refine ⟨fun x => ?_, hI.regStep hp hD hi hil hcl ho (fun _ _ h => h) hv hg hd, hI.sep, hI.blk, fun x L hx => (hI.dom x L hx).imp id fun ⟨t, h1, h2, h3⟩ => ⟨t, h1, .inl h2, h3⟩, hs1, by rw [hs2]; exact hI.df, hI.ag, hI.fr, fun j hj hf hdj => ?_⟩
  · obtain ⟨m, h1, h2, h3, h4, h5⟩ := hI.mem x
    refine ⟨m, h1, h2, fun t htl htx => ?_, h4, h5⟩
    rw [h3 t htl htx]
    exact ⟨.inl, fun h => h.resolve_right fun e => by subst e; exact ht.not htx⟩
  · rcases hdj with hdj | rfl
    · exact hI.cb j hj hf hdj
    · rw [ht.1] at hf; cases hf

theorem barOf_facts {bar nx : Nat} {f : Fp} (h : bar ≤ nx) : bar ≤ barOf f bar nx ∧ barOf f bar nx ≤ nx := by
  cases f with
  | all => exact ⟨Nat.le_refl _, h⟩
  | q => exact ⟨h, Nat.le_refl _⟩
  | ls F wr => cases wr with
    | true => exact ⟨Nat.le_refl _, h⟩
    | false => exact ⟨h, Nat.le_refl _⟩

open Classical in
theorem DInv.memo (hp : PrepOk all ms dm) (hT : Tr E ih all ms dm len g fp recs) (hl : len = all.length) (hI : DInv ρ0 w0 all len g fp D ρ xh xr a w) (hD : ∀ a b, D a → Cl ms a b → D b) {i : Nat} (hi : ¬ D i) (hil : i < len) (hcl : ∀ b, Cl ms i b → D b)
    {o : Oper} (ho : all[i]? = some o) {v : V} {u : Value} {hv h' : T O} {ρ' : Nm} {w' : World} (hview : ∀ x ob, hv.get x = some ob → xh x = some ob ∧ x < (g i).nx ∧ Rm ms g fp i x) (hm1 : ∀ x, Tm g fp i x → (g (i + 1)).h.get x = h'.get x)
    (hbar : (g 0).bar ≤ (g i).nx) (hmono : (g i).nx ≤ (g (i + 1)).nx) (hg : (g (i + 1)).regs = upD (g i).regs o.dst v) (hd : ∀ d, o.dst = some d → d < (g 0).nt) (hfb : (g i).bar = (g 0).bar)
    (hvu : Rv ρ' (g (i + 1)).nx v u) (hS' : HSat ρ' h'.get (g (i + 1)).nx w') (hag : agree (g i).nx (fun k => if k < (g i).nx then ρ k else none) ρ')
    (hfr : Fr (Own (fun k => if k < (g i).nx then ρ k else none) hv.get (barOf (fp i) (g 0).bar (g i).nx)) w (Own ρ' h'.get (barOf (fp i) (g 0).bar (g i).nx)) w') :
    ∃ ρ2 xh2 xr2, DInv ρ0 w0 all len g fp (fun t => D t ∨ t = i) ρ2 xh2 xr2 (a.put o.dst u) w' := by
  obtain ⟨hb1, hb2⟩ := barOf_facts (f := fp i) hbar
  have hi1 : i + 1 ≤ len := hil
  have h0i : (g 0).nx ≤ (g i).nx := nx_le hT hl (Nat.zero_le _) (Nat.le_of_lt hil)
  obtain ⟨ρ2, hρ2⟩ : ∃ ρ2 : Nm, ∀ x, ρ2 x = if x < (g i).nx then ρ x else if x < (g (i + 1)).nx then ρ' x else ρ x := ⟨_, fun _ => rfl⟩
  have hr : ∀ x L, ρ x = some L → ρ2 x = some L := by
    intro x L hx
    rw [hρ2]
    split
    · exact hx
    · split
      · exfalso
        rcases hI.dom x L hx with h | ⟨t, h1, h2, h3, h4⟩
        · omega
        · rcases Nat.lt_trichotomy t i with h | h | h
          · have := nx_le hT hl (a := t + 1) (b := i) (by omega) (by omega); omega
          · subst h; exact hi h2
          · have := nx_le hT hl (a := i + 1) (b := t) (by omega) (by omega); omega
      · exact hx
  have he : ∀ x, x < (g (i + 1)).nx → ρ2 x = ρ' x := by
    intro x hx
    rw [hρ2, if_pos hx]
    split
    · rename_i h
      have := hag x h
      simp only [if_pos h] at this
      exact this.symm
    · rfl
  have wm : ∀ x, barOf (fp i) (g 0).bar (g i).nx ≤ x → x < (g i).nx → Rm ms g fp i x → Tm g fp i x := by
    intro x hx hlt hR
    refine .inl ?_
    unfold Wm
    unfold Rm at hR
    rw [hfb]
    cases hf : fp i with
    | all => trivial
    | q => rw [hf] at hx; simp only [barOf] at hx; omega
    | ls F wr =>
      rw [hf] at hx hR
      cases wr with
      | true => simp only [barOf] at hx; exact ⟨rfl, hR, hx⟩
      | false => simp only [barOf] at hx; omega
  have tb : ∀ x, Tm g fp i x → fp i ≠ .all → barOf (fp i) (g 0).bar (g i).nx ≤ x := by
    intro x hx hne
    unfold Tm Wm at hx
    rw [hfb] at hx
    cases hf : fp i with
    | all => exact absurd hf hne
    | q =>
      rw [hf] at hx
      rcases hx with hx | hx
      · exact hx.elim
      · exact hx.1
    | ls F wr =>
      rw [hf] at hx
      rcases hx with hx | hx
      · obtain ⟨rfl, _, h3⟩ := hx
        exact h3
      · have := hx.1
        cases wr with
        | true => simp only [barOf]; omega
        | false => exact this
  have notOwn : ∀ x ob L, ¬ Tm g fp i x → xh x = some ob → ρ x = some L → ¬ Own (fun k => if k < (g i).nx then ρ k else none) hv.get (barOf (fp i) (g 0).bar (g i).nx) L.b := by
    rintro x ob L hnt hx hL ⟨id, o', L', h1, h2, h3, h4⟩
    obtain ⟨k1, k2, k3⟩ := hview id o' h2
    simp only [if_pos k2] at h3
    have hT' := wm id h1 k2 k3
    exact hI.sep id o' x ob k1 hx (fun e => by subst e; exact hnt hT') L' L h3 hL h4
  have keepB : ∀ x ob L, ¬ Tm g fp i x → xh x = some ob → ρ x = some L → w'.heap[L.b]? = w.heap[L.b]? := fun x ob L h1 h2 h3 => hfr.keep _ (hI.blk x L h3) (notOwn x ob L h1 h2 h3)
  have locOf : ∀ x ob L, xh x = some ob → ρ2 x = some L → ρ x = some L := by
    intro x ob L hx hL
    obtain ⟨m, _, _, _, _, h5⟩ := hI.mem x
    obtain ⟨L0, hL0⟩ := (h5 ob hx).2.loc
    have := hr x L0 hL0
    rw [hL] at this
    cases this
    exact hL0
  have newLt : ∀ x ob, h'.get x = some ob → x < (g (i + 1)).nx := fun x ob hx => (hS'.objs x ob hx).1
  have ownUp : ∀ b, Own (fun k => if k < (g i).nx then ρ k else none) hv.get (barOf (fp i) (g 0).bar (g i).nx) b → Own ρ xh (g 0).bar b := by
    rintro b ⟨id, o', L', h1, h2, h3, h4⟩
    obtain ⟨k1, k2, k3⟩ := hview id o' h2
    simp only [if_pos k2] at h3
    exact ⟨id, o', L', by omega, k1, h3, h4⟩
  have sepMix : ∀ x ob x' ob' L L', Tm g fp i x → ¬ Tm g fp i x' → h'.get x = some ob → xh x' = some ob' → ρ2 x = some L → ρ2 x' = some L' → L.b ≠ L'.b := by
    intro x ob x' ob' L L' ht hnt hx hx' hL hL' e
    have hne : fp i ≠ .all := fun hf => hnt (by refine .inl ?_; unfold Wm; rw [hf]; trivial)
    rw [he x (newLt x ob hx)] at hL
    have hL2 := locOf x' ob' L' hx' hL'
    rcases hfr.own L.b ⟨x, ob, L, tb x ht hne, hx, hL, rfl⟩ with h | h
    · rw [e] at h; exact notOwn x' ob' L' hnt hx' hL2 h
    · have := hI.blk x' L' hL2; omega
  obtain ⟨hs1, hs2⟩ := put_tmps (dst := o.dst) (u := u) hI.size
  refine ⟨ρ2, fun x => if Tm g fp i x then h'.get x else xh x, fun x => if o.dst = some x then some v else xr x, fun x => ?_, hI.regStep hp hD hi hil hcl ho hr ?_ hg hd, fun x ob x' ob' hx hx' hne L L' hL hL' => ?_, fun x L hx => ?_, fun x L hx => ?_, hs1, ?_, ?_, ?_, fun j hj hf hdj => ?_⟩
  · by_cases ht : Tm g fp i x
    · refine ⟨i + 1, hi1, ?_, claimB (fun j i hj hi => (memT hT hl hj hi).1) hD hi hil hcl ht, .inr ⟨i, rfl, hil, ht⟩, fun ob hob => ?_⟩
      · rw [if_pos ht, hm1 x ht]
      · rw [if_pos ht] at hob
        obtain ⟨k1, k2⟩ := hS'.objs x ob hob
        exact ⟨k1, ObjOk.ext k1 (Nat.le_refl _) (fun k L hk hL => by rw [he k hk]; exact hL) (fun _ _ => rfl) ob k2⟩
    · obtain ⟨m, h1, h2, h3, h4, h5⟩ := hI.mem x
      refine ⟨m, h1, by rw [if_neg ht]; exact h2, fun t htl htx => ?_, h4, fun ob hob => ?_⟩
      · rw [h3 t htl htx]
        exact ⟨.inl, fun h => h.resolve_right fun e => by subst e; exact ht htx⟩
      · rw [if_neg ht] at hob
        obtain ⟨k1, k2⟩ := h5 ob hob
        exact ⟨k1, ObjOk.ext k1 (Nat.le_refl _) (fun k L _ hL => hr k L hL) (fun L hL => keepB x ob L ht hob hL) ob k2⟩
  · exact Rv.ext (Nat.le_refl _) (fun k L hk hL => by rw [he k hk]; exact hL) _ _ hvu
  · split at hx
    · rename_i ht
      split at hx'
      · rw [he x (newLt x ob hx)] at hL
        rw [he x' (newLt x' ob' hx')] at hL'
        exact hS'.sep x ob x' ob' hx hx' hne L L' hL hL'
      · rename_i ht'
        exact sepMix x ob x' ob' L L' ht ht' hx hx' hL hL'
    · rename_i ht
      split at hx'
      · rename_i ht'
        exact fun e => sepMix x' ob' x ob L' L ht' ht hx' hx hL' hL e.symm
      · exact hI.sep x ob x' ob' hx hx' hne L L' (locOf x ob L hx hL) (locOf x' ob' L' hx' hL')
  · have hsz := hfr.size
    rw [hρ2] at hx
    split at hx
    · have := hI.blk x L hx; omega
    · split at hx
      · exact hS'.blk x L hx
      · have := hI.blk x L hx; omega
  · rw [hρ2] at hx
    split at hx
    · exact (hI.dom x L hx).imp id fun ⟨t, h1, h2, h3⟩ => ⟨t, h1, .inl h2, h3⟩
    · rename_i hx1
      split at hx
      · rename_i hx2
        exact .inr ⟨i, hil, .inr rfl, Nat.le_of_not_lt hx1, hx2⟩
      · exact (hI.dom x L hx).imp id fun ⟨t, h1, h2, h3⟩ => ⟨t, h1, .inl h2, h3⟩
  · rw [hs2]; exact hI.df.ext (Nat.le_refl _) (fun k L _ hL => hr k L hL)
  · intro x hx
    rw [hρ2, if_pos (by omega)]
    exact hI.ag x hx
  · refine hI.fr.trans ⟨hfr.os, hfr.tape, hfr.output, hfr.size, fun b hb hno => hfr.keep b hb fun h => hno (ownUp b h), ?_⟩
    rintro b ⟨x, ob, L, hbx, hx, hL, rfl⟩
    simp only at hx
    split at hx
    · rename_i ht
      rw [he x (newLt x ob hx)] at hL
      have hbv : barOf (fp i) (g 0).bar (g i).nx ≤ x := by
        by_cases hf : fp i = .all
        · rw [hf]; exact hbx
        · exact tb x ht hf
      exact (hfr.own L.b ⟨x, ob, L, hbv, hx, hL, rfl⟩).imp (ownUp _) id
    · exact .inl ⟨x, ob, L, hbx, hx, locOf x ob L hx hL, rfl⟩
  · rcases hdj with hdj | rfl
    · exact hI.cb j hj hf hdj
    · intro x ob hx
      rw [hm1 x (by refine .inl ?_; unfold Wm; rw [hf]; trivial)] at hx
      exact newLt x ob hx
end
end CX

namespace CX
open Go

theorem bindsA_eq (e : Edge) : Region.binds .any e = bindsA e := by
  unfold Region.binds bindsA
  cases e.ground <;> rfl

def unl : List Bool → Nat
  | [] => 0
  | true :: r => unl r
  | false :: r => unl r + 1

theorem unl_set : ∀ (l : List Bool) (i : Nat), l[i]? = some false → unl (l.set i true) + 1 = unl l
  | [], i, h => by simp at h
  | b :: r, 0, h => by
    simp only [List.getElem?_cons_zero, Option.some.injEq] at h
    subst h
    simp [unl]
  | b :: r, i + 1, h => by
    have := unl_set r i (by simpa using h)
    cases b <;> simp only [List.set_cons_succ, unl] <;> omega

theorem unl_zero : ∀ (l : List Bool), unl l = 0 → ∀ i : Nat, l[i]? ≠ some false
  | [], _, i, h => by simp at h
  | true :: r, h, 0, h' => by simp at h'
  | true :: r, h, i + 1, h' => unl_zero r (by simpa [unl] using h) i (by simpa using h')
  | false :: r, h, i, h' => by simp [unl] at h

theorem unl_rep : ∀ n, unl (List.replicate n false) = n
  | 0 => rfl
  | n + 1 => by simp [List.replicate_succ, unl, unl_rep n]

theorem getD_false_iff {l : Array Bool} {i : Nat} : l.getD i true = false ↔ l.toList[i]? = some false := by
  rw [Array.getD_eq_getD_getElem?, ← Array.getElem?_toList]
  cases h : l.toList[i]? with
  | none => simp
  | some b => simp

theorem getD_true_iff {l : Array Bool} {i : Nat} : Array.getD l i false = true ↔ l[i]? = some true := by
  rw [Array.getD_eq_getD_getElem?]
  cases h : l[i]? with
  | none => simp
  | some b => simp

section
variable {P : Program} {E : Env} {ih : IH} {ms dm : T Nat} {g : Nat → St} {fp : Nat → Fp} {recs : List Rc} {len : Nat} {ops : Array Oper}
variable {ρ0 ρ : Nm} {w0 w : World} {D : Nat → Prop} {xh : Nat → Option O} {xr : Nat → Option V} {a : Act}

theorem DInv.last (hRo0 : RoOk E ρ0 (g 0).h.get (g 0).bar w0) (hT : Tr E ih ops.toList ms dm len g fp recs) (hl : len = ops.toList.length) (hI : DInv ρ0 w0 ops.toList len g fp D ρ xh xr a w) (hall : ∀ t, t < len → D t) : Lands E ρ0 (g 0) w0 (g len) a w ρ := by
  obtain ⟨hb, hn, hdf⟩ := const_of hT hl len (Nat.le_refl _)
  have hle : ∀ {m}, m ≤ len → (g m).nx ≤ (g len).nx := fun h => nx_le hT hl h (Nat.le_refl _)
  have hmem : xh = (g len).h.get := by
    funext x
    obtain ⟨m, h1, h2, h3, _⟩ := hI.mem x
    rw [h2]
    refine sameRange' (tch := Tm g fp) (x := x) (g := fun k => (g k).h.get x) (fun t ht hn => ?_) h1 (Nat.le_refl _) (fun t ht htx => ?_)
    · obtain ⟨o, _, hs⟩ := hT.at hl ht
      exact hs.same x hn
    · rw [h3 t ht htx]; exact ⟨fun _ => ht, fun _ => hall t ht⟩
  have hreg : xr = (g len).regs.get := by
    funext x
    obtain ⟨m, h1, h2, h3, _⟩ := hI.reg x
    rw [h2]
    refine sameRange' (tch := TmR ops.toList) (x := x) (g := fun k => (g k).regs.get x) (fun t ht hn => ?_) h1 (Nat.le_refl _) (fun t ht htx => ?_)
    · obtain ⟨o, ho, hs⟩ := hT.at hl ht
      exact hs.sameR ho x hn
    · rw [h3 t ht htx]; exact ⟨fun _ => ht, fun _ => hall t ht⟩
  subst hmem hreg
  refine ⟨⟨⟨fun x o hx => ?_, hI.sep, fun x hx => ?_, hI.blk⟩, by rw [hn]; exact hI.size, fun t v hv => ?_, ?_, ?_⟩, hI.ag, hle (Nat.zero_le _), hn, hb, by rw [hb]; exact hI.fr⟩
  · obtain ⟨m, h1, _, _, _, h5⟩ := hI.mem x
    obtain ⟨h6, h7⟩ := h5 o hx
    have := hle h1
    exact ⟨by omega, ObjOk.ext h6 this (fun _ _ _ h => h) (fun _ _ => rfl) o h7⟩
  · cases h : ρ x with
    | none => rfl
    | some L =>
      exfalso
      rcases hI.dom x L h with h | ⟨t, h1, _, _, h4⟩
      · have := hle (Nat.zero_le len); omega
      · have := hle (m := t + 1) (by omega); omega
  · obtain ⟨m, h1, _, _, _, h5⟩ := hI.reg t
    obtain ⟨u, h6, h7⟩ := h5 v hv
    exact ⟨u, h6, Rv.ext (hle h1) (fun _ _ _ h => h) _ _ h7⟩
  · rw [hdf]
    exact hI.df.ext (hle (Nat.zero_le _)) (fun _ _ _ h => h)
  · rw [hb]; exact hRo0.fr hI.fr

variable (hE : EnvOk E P) (hI' : IhOk E P ih)
include hE hI'

theorem DInv.step (hRo0 : RoOk E ρ0 (g 0).h.get (g 0).bar w0) (hp : PrepOk ops.toList ms dm) (hT : Tr E ih ops.toList ms dm len g fp recs) (hl : len = ops.toList.length) (h0 : ∀ x o, (g 0).h.get x = some o → x < (g 0).nx) (hI : DInv ρ0 w0 ops.toList len g fp D ρ xh xr a w) (hD : ∀ a b, D a → Cl ms a b → D b)
    {i : Nat} (hi : ¬ D i) (hil : i < len) (hcl : ∀ b, Cl ms i b → D b) {ro : Option Nat} {K : Act → World → Prop} {Q : Exit → Act → World → Prop}
    (hK : ∀ ρ' xh' xr' a' w', DInv ρ0 w0 ops.toList len g fp (fun t => D t ∨ t = i) ρ' xh' xr' a' w' → K a' w') : wpOpIn (Fw ro) 0 P ops Q i K a w := by
  obtain ⟨o, ho, hs⟩ := hT.at hl hil
  have ho' : ops[i]? = some o := by simpa using ho
  obtain ⟨hfb, hfn, _⟩ := const_of hT hl i (Nat.le_of_lt hil)
  obtain ⟨_, _, _, cl, v, hc, hg, hd, hex⟩ := hs
  rw [hfn] at hd
  unfold wpOpIn
  rw [ho']
  simp only
  rcases hex with ⟨hw, rfl, _, ht⟩ | ⟨hw, hcls, ⟨r0, hr0, hv0⟩, _, ht⟩ | ⟨hw, ⟨hv, h', r0, hr0, hv0, hview, hm1, _⟩, hbar, hmono, hlow⟩
  · rw [wantB_ok hp hT hl hI hD hi hil hcl rfl hc hw, if_neg (by simp)]
    exact ⟨fun _ _ => trivial, hK _ _ _ _ _ (hI.quiet hp hD hi hil hcl ho (u := undef) (by simp only [Rv]; exact ⟨[], by simp [RvL], rfl⟩) hg hd ht)⟩
  · rw [wantB_ok hp hT hl hI hD hi hil hcl rfl hc hw, if_pos rfl]
    have hnd : ∀ c, o.op ≠ .defer c := fun c h => by rw [h] at hcls; simp [clsOf] at hcls
    obtain ⟨v', u, h1, h2, h3⟩ := opP_ok hE (ρe := a.eval) (fun x _ v hv => evD_ok hp hT hl hI hD hi hil hcl hc x v hv) hr0
    have := hv0 _ h1
    subst this
    refine ⟨fun _ _ => trivial, ?_⟩
    show o.uponIn (Fw ro) 0 P a K Q ((o.semAt ro a.eval).run P w)
    rw [Oper.semAt_eq _ _ _ hnd, h3 w, Oper.uponIn_value]
    refine hK _ _ _ _ _ (hI.quiet hp hD hi hil hcl ho (v := v') ?_ hg hd ht)
    rw [ht.2]
    refine Rv.ext (Nat.le_refl _) (fun k L hk hL => ?_) _ _ h2
    rw [if_pos hk] at hL; exact hL
  · rw [wantB_ok hp hT hl hI hD hi hil hcl rfl hc hw, if_pos rfl]
    have hvw : ∀ x ob, hv.get x = some ob → xh x = some ob ∧ x < (g i).nx ∧ Rm ms g fp i x ∧ ∃ m, m ≤ i ∧ x < (g m).nx ∧ ObjOk ρ (g m).nx w x ob := by
      intro x ob hx
      obtain ⟨h1, h2⟩ := hview x ob hx
      have hR : Rm ms g fp i x := by
        refine h2 fun hq => ?_
        refine hI.bound hT hl h0 i (Nat.le_of_lt hil) (fun j hj hf => ?_) x ob h1
        rcases hT.pr j i hj hil with h | h | h | h
        · exact hcl j h
        · rw [h.1] at hq; cases hq
        · rw [h.1] at hf; cases hf
        · unfold pairOk at h; rw [hq, hf] at h; cases h
      obtain ⟨h3, m, h4, h5⟩ := hI.memAt hT hl hD hi hil hcl hR
      rw [h1] at h3
      obtain ⟨h6, h7⟩ := h5 ob h3
      have := nx_le hT hl h4 (Nat.le_of_lt hil)
      exact ⟨h3, by omega, hR, m, h4, h6, h7⟩
    have hS : HSat (fun k => if k < (g i).nx then ρ k else none) hv.get (g i).nx w := by
      refine ⟨fun x ob hx => ?_, fun x ob x' ob' hx hx' hne L L' hL hL' => ?_, fun x hx => if_neg (by omega), fun x L hL => ?_⟩
      · obtain ⟨_, h1, _, m, h2, h3, h4⟩ := hvw x ob hx
        have hle := nx_le hT hl h2 (Nat.le_of_lt hil)
        exact ⟨h1, ObjOk.ext h3 hle (fun k L hk hL => by rw [if_pos (by omega)]; exact hL) (fun _ _ => rfl) ob h4⟩
      · rw [if_pos (hvw x ob hx).2.1] at hL
        rw [if_pos (hvw x' ob' hx').2.1] at hL'
        exact hI.sep x ob x' ob' (hvw x ob hx).1 (hvw x' ob' hx').1 hne L L' hL hL'
      · split at hL
        · exact hI.blk x L hL
        · cases hL
    have hRo : RoOk E (fun k => if k < (g i).nx then ρ k else none) hv.get (barOf (fp i) (g i).bar (g i).nx) w := by
      have hr1 := hRo0.fr hI.fr
      refine ⟨hr1.at_, fun a v ha id o L b1 b2 b3 => ?_⟩
      have hid := (hvw id o b2).2.1
      simp only [if_pos hid] at b3
      refine hr1.sep a v ha id o L ?_ (hvw id o b2).1 b3
      have := (barOf_facts (f := fp i) hbar).1
      rw [hfb] at this b1
      exact Nat.le_trans this b1
    obtain ⟨v', g', n', h1, h2⟩ := opA_ok hI' hE hRo hS (a := a) (fun x _ v hv => evD_ok hp hT hl hI hD hi hil hcl hc x v hv) hr0
    obtain ⟨rfl, rfl, rfl⟩ := hv0 _ _ _ h1
    refine h2 ro _ _ fun u ρ' w' e1 e2 e3 _ e5 => ?_
    rw [hfb] at e5 hbar
    obtain ⟨ρ2, xh2, xr2, hI2⟩ := hI.memo hp hT hl hD hi hil hcl ho (u := u) (fun x ob hx => ⟨(hvw x ob hx).1, (hvw x ob hx).2.1, (hvw x ob hx).2.2.1⟩) hm1 hbar hmono hg hd hfb e1 e2 e3 e5
    exact hK _ _ _ _ _ hI2

theorem DInv.walk (hRo0 : RoOk E ρ0 (g 0).h.get (g 0).bar w0) (hp : PrepOk ops.toList ms dm) (hT : Tr E ih ops.toList ms dm len g fp recs) (hl : len = ops.toList.length) (h0 : ∀ x o, (g 0).h.get x = some o → x < (g 0).nx) {ro : Option Nat} {Q : Exit → Act → World → Prop}
    (hQ : ∀ ρ a w, Lands E ρ0 (g 0) w0 (g len) a w ρ → Q .normal a w) : ∀ (fuel : Nat) (listed : Array Bool) (ρ : Nm) (xh : Nat → Option O) (xr : Nat → Option V) (a : Act) (w : World), listed.size = ops.size → unl listed.toList = fuel →
    DInv ρ0 w0 ops.toList len g fp (fun t => listed[t]? = some true) ρ xh xr a w → (∀ a b, listed[a]? = some true → Cl ms a b → listed[b]? = some true) → wpAnyIn (Fw ro) 0 P .any ops Q fuel listed a w := by
  have hlen : len = ops.size := by simpa using hl
  -- nothing is left if nothing is ready
  have empty : ∀ listed : Array Bool, listed.size = ops.size → Region.ready .any ops listed = [] → ∀ t, t < len → listed[t]? = some true := by
    intro listed hsz hr t
    induction t using Nat.strongRecOn with
    | _ t ihh =>
      intro ht
      have hlt : t < listed.size := by omega
      cases hc : listed.getD t true with
      | true =>
        rw [Array.getD_eq_getD_getElem?] at hc
        simp only [hlt, Array.getElem?_eq_getElem, Option.getD_some] at hc
        simp [hlt, hc]
      | false =>
        exfalso
        have hm : t ∈ Region.ready .any ops listed := by
          rw [mem_ready]
          obtain ⟨o, ho⟩ : ∃ o, ops[t]? = some o := ⟨ops[t]'(by omega), by simp [show t < ops.size by omega]⟩
          refine ⟨hc, o, ho, fun e he hbe => ?_⟩
          obtain ⟨m, _, _, hb⟩ := hp.hm t o (by simpa using ho)
          have hlt := hb e (by simpa using he) (by rw [← bindsA_eq]; exact hbe)
          exact getD_true_iff.2 (ihh e.on hlt (by omega))
        rw [hr] at hm
        cases hm
  intro fuel
  induction fuel with
  | zero =>
    intro listed ρ xh xr a w hsz hu hI _
    have hr : Region.ready .any ops listed = [] := by
      cases h : Region.ready .any ops listed with
      | nil => rfl
      | cons x xs =>
        exfalso
        have hm : x ∈ Region.ready .any ops listed := by rw [h]; simp
        rw [mem_ready] at hm
        exact unl_zero _ hu x (getD_false_iff.1 hm.1)
    exact ⟨hr, hQ _ _ _ (hI.last hRo0 hT hl (empty listed hsz hr))⟩
  | succ fuel ihf =>
    intro listed ρ xh xr a w hsz hu hI hD
    refine ⟨fun hr => hQ _ _ _ (hI.last hRo0 hT hl (empty listed hsz hr)), fun i hi => ?_⟩
    rw [mem_ready] at hi
    obtain ⟨hif, o, ho, hpre⟩ := hi
    have hil : i < len := by rw [hlen]; exact (Array.getElem?_eq_some_iff.1 ho).1
    have hfl : listed.toList[i]? = some false := getD_false_iff.1 hif
    have hni : ¬ (listed[i]? = some true) := fun h => by rw [← Array.getElem?_toList, hfl] at h; cases h
    have hcl : ∀ b, Cl ms i b → listed[b]? = some true := by
      rintro b ⟨m, hm, hb⟩
      obtain ⟨m', h1, h2, _⟩ := hp.hm i o (by simpa using ho)
      rw [hm] at h1; cases h1
      obtain ⟨e, he, hbe, h⟩ := h2 b hb
      have hon := getD_true_iff.1 (hpre e (by simpa using he) (by rw [bindsA_eq]; exact hbe))
      rcases h with rfl | ⟨me, hme, hb'⟩
      · exact hon
      · exact hD e.on b hon ⟨me, hme, hb'⟩
    have hset : ∀ t, (listed.setIfInBounds i true)[t]? = some true ↔ (listed[t]? = some true ∨ t = i) := by
      intro t
      rw [Array.getElem?_setIfInBounds]
      by_cases h : i = t
      · subst h
        rw [if_pos rfl, if_pos (by omega)]
        simp
      · rw [if_neg h]
        exact ⟨.inl, fun hh => hh.resolve_right fun e => h e.symm⟩
    refine hI.step hE hI' hRo0 hp hT hl h0 hD hni hil hcl fun ρ' xh' xr' a' w' hI2 => ?_
    refine ihf _ ρ' xh' xr' a' w' (by simpa using hsz) ?_ ?_ ?_
    · have := unl_set _ _ hfl
      rw [Array.toList_setIfInBounds]
      omega
    · have e : (fun t => (listed.setIfInBounds i true)[t]? = some true) = (fun t => listed[t]? = some true ∨ t = i) := funext fun t => propext (hset t)
      rw [e]; exact hI2
    · intro x y hx hy
      rw [hset] at hx ⊢
      rcases hx with hx | rfl
      · exact .inl (hD x y hx hy)
      · exact .inl (hcl y hy)

theorem draw_ok {ρ : Nm} {S : St} {a : Act} {w : World} (hS : Sat E ρ S a w) {id : Nat} {r : Ex × St}
    (h : (prep ops.toList 0 .e .e fun ms dm => match drawGo E ih ops.toList ms dm ops.toList 0 [] S with
      | some S => some (Ex.normal, S)
      | none => none) = some r) {ro : Option Nat} : ∃ S', r = (.normal, S') ∧ (Code.region id ops true).wpIn (Fw ro) 0 P (CPost E ρ S w .normal S') a w := by
  obtain ⟨ms, dm, h, hp⟩ := prep_ok ops.toList [] .e .e (by simpa using h) ⟨by simp, fun i m j h => by simp [T.get] at h, by simp, fun i m h => by simp [T.get] at h⟩
  simp only [List.nil_append] at hp
  split at h
  · rename_i S1 hd
    simp only [Option.some.injEq] at h
    subst h
    refine ⟨S1, rfl, wpIn_region_any hE.mixed ?_⟩
    obtain ⟨g, fp, recs, hT, hg0, hge⟩ := drawGo_ok (E := E) (ih := ih) (all := ops.toList) (ms := ms) (dm := dm) ops.toList 0 [] (fun _ => S) (fun _ => .all) (fun j => by simp) hd
      ⟨fun j o hj => by omega, fun r hr => by simp at hr, fun j hj => by omega, fun a b _ hb => by omega⟩
    have e0 : g 0 = S := hg0 0 (Nat.le_refl _)
    rw [Nat.zero_add] at hT hge
    have hS1 : Sat E ρ S a { w with drawn := w.drawn + 1 } := ⟨hS.hs.world rfl, hS.size, hS.regs, hS.df, ⟨hS.ro.at_, hS.ro.sep⟩⟩
    refine DInv.walk hE hI' (ρ0 := ρ) (w0 := w) (by rw [e0]; exact hS.ro) hp hT rfl (by rw [e0]; exact fun x o hx => (hS.hs.objs x o hx).1) (fun ρ' a' w' hL => ?_) ops.size _ ρ S.h.get S.regs.get a _ (by simp) (by simp [unl_rep]) ?_ ?_
    · rw [hge, e0] at hL
      exact ⟨rfl, ρ', hL⟩
    · have nn : ∀ t : Nat, ¬ ((Array.replicate ops.size false)[t]? = some true) := by
        intro t h
        rw [Array.getElem?_replicate] at h
        split at h <;> cases h
      refine ⟨fun x => ⟨0, Nat.zero_le _, by rw [e0], fun t _ _ => ⟨fun h => by omega, fun h => absurd h (nn t)⟩, .inl rfl, fun o ho => by rw [e0]; exact hS1.hs.objs x o ho⟩,
        fun x => ⟨0, Nat.zero_le _, by rw [e0], fun t _ _ => ⟨fun h => by omega, fun h => absurd h (nn t)⟩, .inl rfl, fun v hv => by rw [e0]; exact hS1.regs x v hv⟩,
        hS1.hs.sep, hS1.hs.blk, fun x L hx => .inl ?_, by rw [e0]; exact hS1.size, by rw [e0]; exact hS1.df, by rw [e0]; exact agree.refl _ _, by rw [e0]; exact ⟨rfl, rfl, rfl, Nat.le_refl _, fun _ _ _ => rfl, fun _ h => .inl h⟩, fun j hj _ hdj => absurd hdj (nn j)⟩
      rw [e0]
      rcases Nat.lt_or_ge x S.nx with h | h
      · exact h
      · rw [hS1.hs.dom x h] at hx; cases hx
    · intro x y hx _
      rw [Array.getElem?_replicate] at hx
      split at hx <;> cases hx
  · cases h
end
end CX
