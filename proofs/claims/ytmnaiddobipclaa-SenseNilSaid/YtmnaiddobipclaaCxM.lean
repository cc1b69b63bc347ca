/-
  CX: operations that read memory, write it, or make some, do what the executor says.
-/
import Derived.Test.YtmnaiddobipclaaCxP2
import Derived.Laws.Append
import Derived.Laws.CopyRow
import Derived.Laws.Tables
import Derived.Lib.AppendZeros
import Derived.MapKept
import Derived.Laws.BytesString
namespace CX
open Go

/-! ### Memory, changed at one block -/

theorem HSat.sub {ρ : Nm} {g g' : Nat → Option O} {n : Nat} {w : World} (h : HSat ρ g n w) (hg : ∀ id o, g' id = some o → g id = some o) : HSat ρ g' n w :=
  ⟨fun id o ho => h.objs id o (hg id o ho), fun id o id' o' h1 h2 => h.sep id o id' o' (hg _ _ h1) (hg _ _ h2), h.dom, h.blk⟩

theorem HSat.world {ρ : Nm} {g : Nat → Option O} {n : Nat} {w w' : World} (h : HSat ρ g n w) (e : w'.heap = w.heap) : HSat ρ g n w' :=
  ⟨fun id o ho => ⟨(h.objs id o ho).1, ObjOk.ext (h.objs id o ho).1 (Nat.le_refl _) (fun _ _ _ h => h) (fun _ _ => by rw [e]) o (h.objs id o ho).2⟩, h.sep, h.dom, fun id L hl => by rw [e]; exact h.blk id L hl⟩

theorem HSat.upd {ρ ρ' : Nm} {g g' : Nat → Option O} {n n' : Nat} {w w' : World} (hS : HSat ρ g n w) {id0 : Nat} {o0 : O} {L0 : Loc} (hn : n ≤ n') (ha : agree n ρ ρ') (hid0 : id0 < n')
    (hL0 : ρ' id0 = some L0) (ho : ObjOk ρ' n' w' id0 o0) (hg0 : ∀ o, g' id0 = some o → o = o0) (hg : ∀ id o, g' id = some o → id ≠ id0 → g id = some o ∧ ∀ L, ρ id = some L → L.b ≠ L0.b)
    (hkeep : ∀ b, b < w.heap.size → b ≠ L0.b → w'.heap[b]? = w.heap[b]?) (hdom : ∀ id, n' ≤ id → ρ' id = none) (hblk : ∀ id L, ρ' id = some L → L.b < w'.heap.size) : HSat ρ' g' n' w' := by
  have keep : ∀ id o, g' id = some o → id ≠ id0 → id < n ∧ ObjOk ρ' n' w' id o := by
    intro id o h hne
    obtain ⟨h1, h2⟩ := hg id o h hne
    obtain ⟨h3, h4⟩ := hS.objs id o h1
    exact ⟨h3, ObjOk.ext h3 hn (fun i L hi hl => by rw [ha i hi]; exact hl) (fun L hL => hkeep L.b (hS.blk id L hL) (h2 L hL)) o h4⟩
  refine ⟨fun id o h => ?_, fun id o id' o' h h' hne L L' hL hL' => ?_, hdom, hblk⟩
  · by_cases hid : id = id0
    · subst hid
      rw [hg0 o h]
      exact ⟨hid0, ho⟩
    · obtain ⟨h1, h2⟩ := keep id o h hid
      exact ⟨by omega, h2⟩
  · by_cases h1 : id = id0
    · subst h1
      have h2 : id' ≠ id := Ne.symm hne
      obtain ⟨h3, h4⟩ := hg id' o' h' h2
      obtain ⟨h5, _⟩ := keep id' o' h' h2
      rw [hL0] at hL
      cases hL
      rw [ha id' h5] at hL'
      exact Ne.symm (h4 L' hL')
    · obtain ⟨h3, h4⟩ := hg id o h h1
      obtain ⟨h5, _⟩ := keep id o h h1
      rw [ha id h5] at hL
      by_cases h2 : id' = id0
      · subst h2
        rw [hL0] at hL'
        cases hL'
        exact h4 L hL
      · obtain ⟨h6, h7⟩ := hg id' o' h' h2
        obtain ⟨h8, _⟩ := keep id' o' h' h2
        rw [ha id' h8] at hL'
        exact hS.sep id o id' o' h3 h6 hne L L' hL hL'

theorem Fr.upd {ρ ρ' : Nm} {g g' : Nat → Option O} {n bar : Nat} {w w' : World} {B : Nat} {id0 : Nat} (hS : HSat ρ g n w) (ha : agree n ρ ρ') (hio : w'.os = w.os ∧ w'.tape = w.tape ∧ w'.output = w.output)
    (hsz : w.heap.size ≤ w'.heap.size) (hkeep : ∀ b, b < w.heap.size → b ≠ B → w'.heap[b]? = w.heap[b]?) (hB : Own ρ g bar B ∨ w.heap.size ≤ B)
    (hL0 : ∀ L, ρ' id0 = some L → L.b = B) (hg : ∀ id o, g' id = some o → id ≠ id0 → g id = some o) : Fr (Own ρ g bar) w (Own ρ' g' bar) w' := by
  refine ⟨hio.1, hio.2.1, hio.2.2, hsz, fun b hb hno => hkeep b hb fun e => ?_, ?_⟩
  · subst e
    rcases hB with h | h
    · exact hno h
    · omega
  · rintro b ⟨id, o, L, hbar, ho, hL, rfl⟩
    by_cases hid : id = id0
    · subst hid
      rw [hL0 L hL]
      exact hB
    · have h1 := hg id o ho hid
      have h2 := (hS.objs id o h1).1
      rw [ha id h2] at hL
      exact .inl ⟨id, o, L, hbar, h1, hL, rfl⟩

/-- What an operation comes to. -/
def MOk (ρ : Nm) (g : Nat → Option O) (n : Nat) (w : World) (bar : Nat) (res : Result Next) (v : V) (g' : Nat → Option O) (n' : Nat) : Prop :=
  ∃ nxt u ρ' w', res = .ok nxt w' ∧ (nxt = .value u ∨ (nxt = .skip ∧ u = undef)) ∧ Rv ρ' n' v u ∧ HSat ρ' g' n' w' ∧ agree n ρ ρ' ∧ n ≤ n' ∧ Fr (Own ρ g bar) w (Own ρ' g' bar) w'

/-- A name more. -/
def Nm.put (ρ : Nm) (id : Nat) (L : Loc) : Nm := fun i => if i = id then some L else ρ i
theorem put_same (ρ : Nm) (id : Nat) (L : Loc) : ρ.put id L id = some L := by simp [Nm.put]
theorem agree_put (ρ : Nm) (n : Nat) (L : Loc) : agree n ρ (ρ.put n L) := fun i hi => by simp [Nm.put, Nat.ne_of_lt hi]
theorem dom_put {ρ : Nm} {n : Nat} (h : ∀ id, n ≤ id → ρ id = none) (L : Loc) : ∀ id, n + 1 ≤ id → (ρ.put n L) id = none := fun id hid => by
  rw [Nm.put, if_neg (by omega)]; exact h id (by omega)

/-- A new object in a new block. -/
theorem HSat.new {ρ : Nm} {g g' : Nat → Option O} {n bar : Nat} {w w' : World} (hS : HSat ρ g n w) {ob : Obj} {o : O} {bs : Nat} (hw : w'.heap = w.heap.push ob) (hio : w'.os = w.os ∧ w'.tape = w.tape ∧ w'.output = w.output)
    (ho : ObjOk (ρ.put n ⟨w.heap.size, 0, bs⟩) (n + 1) w' n o) (hg : ∀ id, g' id = if id = n then some o else g id) :
    HSat (ρ.put n ⟨w.heap.size, 0, bs⟩) g' (n + 1) w' ∧ Fr (Own ρ g bar) w (Own (ρ.put n ⟨w.heap.size, 0, bs⟩) g' bar) w' := by
  have hkeep : ∀ b, b < w.heap.size → b ≠ w.heap.size → w'.heap[b]? = w.heap[b]? := fun b hb _ => by rw [hw, Array.getElem?_push, if_neg (by omega)]
  have hsz : w'.heap.size = w.heap.size + 1 := by rw [hw]; simp
  refine ⟨hS.upd (id0 := n) (o0 := o) (Nat.le_succ _) (agree_put _ _ _) (Nat.lt_succ_self _) (put_same _ _ _) ho (fun o' h => by rw [hg, if_pos rfl] at h; simpa using h.symm) (fun id o' h hne => ?_) hkeep (dom_put hS.dom _) (fun id L h => ?_),
    Fr.upd (id0 := n) hS (agree_put _ _ _) hio (by omega) hkeep (.inr (Nat.le_refl _)) (fun L h => by rw [put_same] at h; cases h; rfl) (fun id o' h hne => by rw [hg, if_neg hne] at h; exact h)⟩
  · rw [hg, if_neg hne] at h
    exact ⟨h, fun L hL => by have := hS.blk id L hL; show L.b ≠ w.heap.size; omega⟩
  · simp only [Nm.put] at h
    split at h
    · cases h; show w.heap.size < _; omega
    · have := hS.blk id L h; omega

theorem run_getMap {P : Program} {w : World} {r : Nat} {es : Array MapEntry} {c : Nat} (h : w.heap[r]? = some (.map es c)) : (getObj r).run P w = .ok (.map es c) w := by
  simp [getObj, Sem.run, h]

/-! ### Cells -/

theorem wrt_ok : ∀ (l : List V) (t : T V) (i : Nat) {k : T V → R} {r : Ex × St}, wrt t i l k = some r → ∃ t', k t' = some r ∧ ∀ j, t'.get j = if i ≤ j ∧ j < i + l.length then l[j - i]? else t.get j
  | [], t, i, k, r, h => ⟨t, h, fun j => by rw [if_neg (by simp)]⟩
  | v :: l, t, i, k, r, h => by
    simp only [wrt] at h
    rw [T.set_eq] at h
    obtain ⟨t', h1, h2⟩ := wrt_ok l _ (Nat.succ i) h
    refine ⟨t', h1, fun j => ?_⟩
    rw [h2, T.get_up]
    by_cases hj : j = i
    · subst hj
      rw [if_neg (by omega), if_pos rfl, if_pos (by simp)]
      simp
    · by_cases hj2 : Nat.succ i ≤ j ∧ j < Nat.succ i + l.length
      · rw [if_pos hj2, if_pos (by simp; omega), show j - i = (j - Nat.succ i) + 1 by omega]
        simp
      · rw [if_neg hj2, if_neg hj, if_neg (by simp; omega)]

theorem cell_at {w : World} {b : Nat} {cur : Array Value} {ty : TypeId} (h : w.heap[b]? = some (.cells cur ty (0, 0))) (i : Nat) : w.cell? ⟨b, i, none⟩ = cur[i]? := by
  simp [World.cell?, h]

theorem one1_cell {ρ : Nm} {n : Nat} {v : V} {u : Value} (h : Rv ρ n v u) (h1 : one1 v = true) : u.oneCell' = true := by
  cases v with
  | agg l => simp [one1] at h1
  | tup l => simp [one1] at h1
  | slc id es off ln c => cases c <;> simp only [Rv] at h
                          · obtain ⟨_, _, L, c, o, _, rfl, _⟩ := h; rfl
                          · obtain ⟨_, _, _, L, _, rfl⟩ := h; rfl
  | fn f a b => cases f <;> simp only [Rv] at h
                · obtain ⟨x, y, _, _, rfl⟩ := h; rfl
                · obtain ⟨_, L, x, y, _, _, _, rfl⟩ := h; rfl
  | int k x => simp only [Rv] at h; subst h; rfl
  | bool b => simp only [Rv] at h; subst h; rfl
  | str s => simp only [Rv] at h; obtain ⟨_, rfl⟩ := h; rfl
  | ptr id off => simp only [Rv] at h; obtain ⟨_, L, _, rfl⟩ := h; rfl
  | nilp => simp only [Rv] at h; subst h; rfl
  | nils => simp only [Rv] at h; subst h; rfl
  | map id => simp only [Rv] at h; obtain ⟨_, L, _, rfl⟩ := h; rfl
  | nilm => simp only [Rv] at h; subst h; rfl
  | nilf => simp only [Rv] at h; subst h; rfl
  | iface t v => simp only [Rv] at h; obtain ⟨x, _, rfl⟩ := h; rfl
  | nili => simp only [Rv] at h; subst h; rfl
  | raw x => simp only [Rv] at h; obtain ⟨rfl, h⟩ := h; exact h

/-- The cells that are there. -/
theorem cells_list {ρ : Nm} {g : Nat → Option O} {n : Nat} {w : World} (hS : HSat ρ g n w) {id m : Nat} {t : T V} (hg : g id = some (.cells t m)) {i c : Nat} (hle : i + c ≤ m) :
    ∃ l x L cur ty, l.length = c ∧ RvL ρ n l x ∧ (∀ v ∈ l, one1 v = true) ∧ ρ id = some L ∧ w.heap[L.b]? = some (.cells cur ty (0, 0)) ∧ cur.size = L.bs ∧ L.base + m ≤ L.bs ∧
      (∀ j, j < c → t.get (i + j) = l[j]?) ∧ (∀ j u, x[j]? = some u → cur[L.base + i + j]? = some u) ∧ (∀ j u, x[j]? = some u → w.cell? ((⟨L.b, L.base + i, none⟩ : Addr).add j) = some u) := by
  obtain ⟨_, ho⟩ := hS.objs id _ hg
  simp only [ObjOk] at ho
  obtain ⟨L, cur, ty, hL, hh, hsz, hbs, hcell⟩ := ho
  have key : ∀ (c i : Nat), i + c ≤ m → ∃ l x, l.length = c ∧ RvL ρ n l x ∧ (∀ v ∈ l, one1 v = true) ∧ (∀ j, j < c → t.get (i + j) = l[j]?) ∧ ∀ j u, x[j]? = some u → cur[L.base + i + j]? = some u := by
    intro c
    induction c with
    | zero => exact fun i _ => ⟨[], [], rfl, by simp [RvL], by simp, fun j h => by omega, fun j u h => by simp at h⟩
    | succ c ih =>
      intro i hle
      obtain ⟨l, x, hl, hx1, hx2, hx4, hx3⟩ := ih (i + 1) (by omega)
      obtain ⟨v, u, g1, g2, g3, g4⟩ := hcell i (by omega)
      refine ⟨v :: l, u :: x, by simp [hl], by simp only [RvL]; exact ⟨g4, hx1⟩, fun y hy => ?_, fun j hj => ?_, fun j u' hj => ?_⟩
      · rcases List.mem_cons.1 hy with rfl | hy
        · exact g2
        · exact hx2 y hy
      · cases j with
        | zero => exact g1
        | succ j => rw [show i + (j + 1) = i + 1 + j by omega, hx4 j (by omega)]; rfl
      · cases j with
        | zero => simp only [List.getElem?_cons_zero, Option.some.injEq] at hj; subst hj; exact g3
        | succ j => have := hx3 j u' (by simpa using hj); rw [show L.base + i + (j + 1) = L.base + (i + 1) + j by omega]; exact this
  obtain ⟨l, x, hl, hx1, hx2, hx4, hx3⟩ := key c i hle
  exact ⟨l, x, L, cur, ty, hl, hx1, hx2, hL, hh, hsz, hbs, hx4, hx3, fun j u hj => by rw [add_at, cell_at hh]; exact hx3 j u hj⟩

theorem rd_eq {t : T V} : ∀ (l : List V) (i : Nat) (k : List V → R), (∀ j, j < l.length → t.get (i + j) = l[j]?) → rd t i l.length k = k l
  | [], i, k, _ => rfl
  | v :: l, i, k, h => by
    have h0 := h 0 (by simp)
    simp only [Nat.add_zero, List.getElem?_cons_zero] at h0
    simp only [List.length_cons, rd, h0]
    rw [rd_eq l (Nat.succ i) _ (fun j hj => by rw [show Nat.succ i + j = i + (j + 1) by omega, h (j + 1) (by simpa using hj)]; rfl)]

/-- Cells are read. -/
theorem cells_read {ρ : Nm} {g : Nat → Option O} {n : Nat} {w : World} (hS : HSat ρ g n w) {id m : Nat} {t : T V} (hg : g id = some (.cells t m)) {i c : Nat} (hle : i + c ≤ m) {k : List V → R} {r : Ex × St} (h : rd t i c k = some r) :
    ∃ l x L cur ty, k l = some r ∧ l.length = c ∧ RvL ρ n l x ∧ (∀ v ∈ l, one1 v = true) ∧ ρ id = some L ∧ w.heap[L.b]? = some (.cells cur ty (0, 0)) ∧ cur.size = L.bs ∧ L.base + m ≤ L.bs ∧
      (∀ j u, x[j]? = some u → cur[L.base + i + j]? = some u) ∧ (∀ j u, x[j]? = some u → w.cell? ((⟨L.b, L.base + i, none⟩ : Addr).add j) = some u) := by
  obtain ⟨l, x, L, cur, ty, h1, h2, h3, h4, h5, h6, h7, h8, h9, h10⟩ := cells_list hS hg hle
  subst h1
  rw [rd_eq l i k h8] at h
  exact ⟨l, x, L, cur, ty, h, rfl, h2, h3, h4, h5, h6, h7, h9, h10⟩

section
variable {P : Program} {E : Env} (hE : EnvOk E P) {ρ : Nm} {n : Nat}
include hE

theorem run_loadVar {t : Nat} {ty : Ty} (hty : E.T t = some ty) (w : World) (a : Addr) {l : List V} {x : List Value} (hl : RvL ρ n l x) (hlen : l.length = ty.size) (hc : ∀ j u, x[j]? = some u → w.cell? (a.add j) = some u)
    {k : V → R} {r : Ex × St} (h : packR ty.agg l k = some r) : ∃ v u, k v = some r ∧ Rv ρ n v u ∧ (loadVar t a).run P w = .ok u w := by
  obtain ⟨i, z, hi, hs, _⟩ := (hE.T _ _ hty).info
  obtain ⟨d, hd, hag, _⟩ := (hE.T _ _ hty).und
  have hxl := hl.length
  obtain ⟨v, u, h1, h2, h3, h4⟩ := packR_ok hl h
  refine ⟨v, u, h1, h2, ?_⟩
  cases ha : ty.agg with
  | true =>
    rw [h3 ha]
    simp only [loadVar, Sem.run_bind, run_isAgg' hd, Result.andThen_ok, hag, ha, if_true, run_sizeOf' hi, hs, ← hlen, ← hxl, run_loadCells_list w a x hc, Sem.run_pure]
  | false =>
    obtain ⟨h5, _⟩ := h4 ha
    have h0 := hc 0 u (by rw [h5]; rfl)
    have : a.add 0 = a := by simp [Addr.add]
    rw [this] at h0
    simp only [loadVar, Sem.run_bind, run_isAgg' hd, Result.andThen_ok, hag, ha, Bool.false_eq_true, if_false, run_load]
    simp [h0]

omit hE in
/-- The first elements of a slice. -/
theorem cellsOf_ok {g : T O} {w : World} (hS : HSat ρ g.get n w) {es m : Nat} {y : V} {u : Value} (hy : Rv ρ n y u) {k : List V → R} {r : Ex × St} (h : cellsOf g es m y k = some r) :
    ∃ l x, k l = some r ∧ RvL ρ n l x ∧ (∀ v ∈ l, one1 v = true) ∧ l.length = m * es ∧
      ((m = 0 ∧ l = []) ∨ ∃ id off ln cap L off' c, y = .slc id es off ln cap ∧ ρ id = some L ∧ u = .slice (some ⟨L.b, off', none⟩) ln c ∧ (ln ≠ 0 → off' = L.base + off) ∧ (∀ j u, x[j]? = some u → w.cell? ((⟨L.b, L.base + off, none⟩ : Addr).add j) = some u)) := by
  unfold cellsOf at h
  split at h
  · split at h
    · exact ⟨[], [], h, by simp [RvL], by simp, by simp, .inl ⟨rfl, rfl⟩⟩
    · cases h
  · rename_i id es' off ln cap
    split at h
    · rename_i hes
      have hes := Nat.eq_of_beq_eq_true hes
      subst hes
      split at h
      · exact ⟨[], [], h, by simp [RvL], by simp, by simp, .inl ⟨rfl, rfl⟩⟩
      · split at h
        · rename_i c cells hg
          split at h
          · rename_i hle
            have hle : off + m * es ≤ cells := by simpa using hle
            obtain ⟨l, x, L, cur, ty, h1, h2, h3, h4, h5, h6, h7, h8, h9, h10⟩ := cells_read hS hg hle h
            refine ⟨l, x, h1, h3, h4, h2, .inr ?_⟩
            cases cap with
            | none =>
              simp only [Rv] at hy
              obtain ⟨_, _, L', c', o', hL', hu, hln, _, ho⟩ := hy
              rw [h5] at hL'; cases hL'
              exact ⟨id, off, ln, none, L, o', c', rfl, h5, hu, fun h0 => by rcases ho with ho | ho; exact ho; omega, h10⟩
            | some cc =>
              simp only [Rv] at hy
              obtain ⟨_, _, _, L', hL', hu⟩ := hy
              rw [h5] at hL'; cases hL'
              exact ⟨id, off, ln, some cc, L, _, cc, rfl, h5, hu, fun _ => rfl, h10⟩
          · cases h
        · cases h
    · cases h
  · cases h

omit hE in
theorem strCells_ok : ∀ (l : List V) (x : List Value) {k : List Nat → R} {r : Ex × St}, RvL ρ n l x → strCells l k = some r → (∃ s, k s = some r ∧ (∀ b ∈ s, b < 256) ∧ x = s.map (fun (b : Nat) => Value.int .u8 (b : Int)))
  | [], [], k, r, _, h => ⟨[], h, by simp, rfl⟩
  | v :: l, u :: x, k, r, hr, h => by
    simp only [RvL] at hr
    unfold strCells at h
    split at h
    · rename_i heq; cases heq
    · rename_i b l' heq
      simp only [List.cons.injEq] at heq
      obtain ⟨rfl, rfl⟩ := heq
      split at h
      · rename_i hb
        rw [Nat.blt_eq] at hb
        obtain ⟨s, h1, h3, h2⟩ := strCells_ok l x hr.2 h
        have := hr.1
        simp only [Rv] at this
        exact ⟨b :: s, h1, fun y hy => by rcases List.mem_cons.1 hy with rfl | hy; exact hb; exact h3 y hy, by rw [this, h2]; rfl⟩
      · cases h
    · cases h
  | [], _ :: _, _, _, h, _ => by simp [RvL] at h
  | _ :: _, [], _, _, h, _ => by simp [RvL] at h

omit hE in
theorem same_now {kind : TypeDesc} {kd : TK} (hkd : KdOk P kd kind) {key : V} {ku : Value} (hkv : keyV kd key = true) (hkey : Rv ρ n key ku) {k : V} {eu : Value} (hk : Rv ρ n k eu) {c : Bool} (hc : eq1 k key = some c) :
    Instr.sameNow kind ku eu = some c := by
  unfold keyV at hkv
  split at hkv
  · rename_i ik k2 a2
    simp only [KdOk] at hkd
    subst hkd
    cases k <;> simp only [eq1] at hc <;> try cases hc
    rename_i k1 a
    simp only [Rv] at hk hkey
    split at hc
    · rename_i hkk
      have := kindEq_ok hkk
      subst this
      simp only [Option.some.injEq, ieq_eq] at hc
      rw [hk, hkey, ← hc]
      simp only [Instr.sameNow, if_true, Option.some.injEq]
      rw [Bool.eq_iff_iff, beq_iff_eq, beq_iff_eq]
      exact eq_comm
    · cases hc
  · rename_i a2
    simp only [KdOk] at hkd
    subst hkd
    cases k <;> simp only [eq1] at hc <;> try cases hc
    rename_i a
    simp only [Rv] at hk hkey
    obtain ⟨h1, rfl⟩ := hk
    obtain ⟨h2, rfl⟩ := hkey
    simp only [Instr.sameNow, Option.some.injEq]
    have : ((bytesOf a2) == (bytesOf a)) = lEq a2 a := by rw [beq_toListBytes]; exact beq_bytes h2 h1
    rw [this, Bool.eq_iff_iff, lEq_iff, lEq_iff]
    exact eq_comm
  · rename_i a2
    simp only [KdOk] at hkd
    subst hkd
    cases k <;> simp only [eq1] at hc <;> try cases hc
    rename_i a
    simp only [Rv] at hk hkey
    subst hk hkey
    cases a <;> cases a2 <;> simp_all [Instr.sameNow]
  · cases hkv

omit hE in
theorem findK_ok {kind : TypeDesc} {kd : TK} (hkd : KdOk P kd kind) {key : V} {ku : Value} (hkv : keyV kd key = true) (hkey : Rv ρ n key ku) :
    ∀ (l : List (V × V × Nat)) (es : List MapEntry) (i : Nat) (q : Option V), RvM ρ n l es → findK key l = some q →
      (q = none ∧ Instr.findNow kind ku es i = some none) ∨ ∃ v j u, q = some v ∧ Rv ρ n v u ∧ Instr.findNow kind ku es i = some (some (j, u))
  | [], [], i, q, _, h => by
    simp only [findK, Option.some.injEq] at h
    exact .inl ⟨h.symm, rfl⟩
  | (k, v, b) :: l, e :: es, i, q, hr, h => by
    simp only [RvM] at hr
    simp only [findK] at h
    split at h
    · rename_i hc
      simp only [Option.some.injEq] at h
      exact .inr ⟨v, i, e.val, h.symm, hr.2.1, by simp only [Instr.findNow, same_now hkd hkv hkey hr.1 hc]⟩
    · rename_i hc
      simp only [Instr.findNow, same_now hkd hkv hkey hr.1 hc]
      exact findK_ok hkd hkv hkey l es (i + 1) q hr.2.2.2 h
    · cases h
  | [], _ :: _, _, _, h, _ => by simp [RvM] at h
  | _ :: _, [], _, _, h, _ => by simp [RvM] at h

omit hE in
theorem run_checkKey {kt : Nat} {kind : TypeDesc} (hu : P.underlying kt = some kind) {kd : TK} (hkd : KdOk P kd kind) {key : V} {ku : Value} (hkv : keyV kd key = true) (emp : Bool) (m : Nat) (w : World) :
    (Instr.checkKey emp (m + 1) kt ku).run P w = .ok () w := by
  unfold keyV at hkv
  split at hkv <;> (try cases hkv) <;> simp only [KdOk] at hkd <;> subst hkd <;> simp [Instr.checkKey, run_underlying hu]

/-- **What reads memory.** -/
theorem opL_ok {g : T O} {w : World} (hS : HSat ρ g.get n w) {o : Oper} {ev : Operand → Option V} {ρe : Operand → Value} (hev : ∀ x ∈ o.op.operands, ∀ v, ev x = some v → Rv ρ n v (ρe x)) (hcls : clsOf E o.op = 1)
    {k : V → R} {r : Ex × St} (h : opL E g ev o.op k = some r) : ∃ v u, k v = some r ∧ Rv ρ n v u ∧ (execOp ρe o).run P w = .ok (.value u) w := by
  cases ho : o.op with
  | load t x =>
    rw [ho] at h hev
    simp only [opL] at h
    split at h
    · rename_i ty id off hty hx
      have hr := hev x (by simp [Op.operands]) _ hx
      simp only [Rv] at hr
      obtain ⟨hid, L, hL, hu⟩ := hr
      split at h
      · rename_i c m hg
        split at h
        · rename_i hle
          have hle : off + ty.size ≤ m := by simpa using hle
          obtain ⟨l, xs, L', cur, tt, h1, h2, h3, h4, h5, h6, h7, h8, h9, h10⟩ := cells_read hS hg hle h
          rw [hL] at h5; cases h5
          obtain ⟨v, u, g1, g2, g3⟩ := run_loadVar hE hty w ⟨L.b, L.base + off, none⟩ h3 h2 h10 h1
          exact ⟨v, u, g1, g2, by simp [execOp, ho, hu, Instr.loadAt, Instr.sureAddr, g3]⟩
        · cases h
      · cases h
    · cases h
  | lookup t x i ok =>
    rw [ho] at h hev
    simp only [opL] at h
    split at h
    · rename_i kt e mv key hk hx hi
      obtain ⟨d, hd, hkd⟩ := und_of hE hk (by simp)
      simp only [KdOk] at hkd
      subst hkd
      have hrx := hev x (by simp [Op.operands]) _ hx
      have hri := hev i (by simp [Op.operands]) _ hi
      split at h
      · rename_i ety hety hkv
        obtain ⟨j, z, hj, hjs, _, hz, hzr, hza, hzb⟩ := (hE.T _ _ hety).info
        obtain ⟨kind, hkind, hkdk⟩ : ∃ kind, P.underlying kt = some kind ∧ KdOk P (kindOf E kt) kind := by
          refine und_of hE rfl fun h0 => ?_
          rw [h0] at hkv
          simp [keyV] at hkv
        obtain ⟨zv, zu, h1, h2, h3, h4⟩ := packR_ok (hzr ρ n) h
        obtain ⟨dz, hdz, hagz, _⟩ := (hE.T _ _ hety).und
        have hzv : z = zu := by
          cases ha : ety.agg with
          | true => rw [h3 ha, hza ha]; simp [Value.cells]
          | false =>
            have := (h4 ha).1
            rw [hzb ha] at this
            simpa using this
        have hzz : (zeroValue e).run P w = .ok zu w := by rw [← hzv]; exact run_zeroValue' hj hz w
        have hck : ∀ emp, (Instr.checkKey emp 10000 kt (ρe i)).run P w = .ok () w := fun emp => run_checkKey hkind hkdk hkv emp 9999 w
        split at h1
        · simp only [Rv] at hrx
          have hrun : (execOp ρe o).run P w = .ok (.value (if ok then .tuple #[zu, .bool false] else zu)) w := by
            simp [execOp, ho, hrx, Instr.lookup, run_underlying hd, hck, Instr.findKey, run_underlying hkind, Instr.findNow, hzz]
          cases ok
          · exact ⟨_, zu, h1, h2, by simpa using hrun⟩
          · exact ⟨_, .tuple #[zu, .bool false], h1, by simp only [Rv]; exact ⟨[zu, .bool false], by simp only [RvL, Rv]; exact ⟨h2, trivial, trivial⟩, rfl⟩, by simpa using hrun⟩
        · rename_i id
          simp only [Rv] at hrx
          obtain ⟨hid, L, hL, hu⟩ := hrx
          split at h1
          · rename_i l c hg
            obtain ⟨_, hobj⟩ := hS.objs id _ hg
            simp only [ObjOk] at hobj
            obtain ⟨L', es, hL', hh, hm⟩ := hobj
            rw [hL] at hL'; cases hL'
            have hget := run_getMap (P := P) hh
            split at h1
            · rename_i v hf
              rcases findK_ok hkdk hkv hri l es.toList 0 _ hm hf with ⟨h0, _⟩ | ⟨v', jj, u, hv', hru, hfn⟩
              · cases h0
              · cases hv'
                have hrun : (execOp ρe o).run P w = .ok (.value (if ok then .tuple #[u, .bool true] else u)) w := by
                  simp [execOp, ho, hu, Instr.lookup, run_underlying hd, hget, hck, Instr.findKey, run_underlying hkind, hfn]
                cases ok
                · exact ⟨_, u, h1, hru, by simpa using hrun⟩
                · exact ⟨_, .tuple #[u, .bool true], h1, by simp only [Rv]; exact ⟨[u, .bool true], by simp only [RvL, Rv]; exact ⟨hru, trivial, trivial⟩, rfl⟩, by simpa using hrun⟩
            · rename_i hf
              rcases findK_ok hkdk hkv hri l es.toList 0 _ hm hf with ⟨_, hfn⟩ | ⟨v', jj, u, hv', _⟩
              · have hrun : (execOp ρe o).run P w = .ok (.value (if ok then .tuple #[zu, .bool false] else zu)) w := by
                  simp [execOp, ho, hu, Instr.lookup, run_underlying hd, hget, hck, Instr.findKey, run_underlying hkind, hfn, hzz]
                cases ok
                · exact ⟨_, zu, h1, h2, by simpa using hrun⟩
                · exact ⟨_, .tuple #[zu, .bool false], h1, by simp only [Rv]; exact ⟨[zu, .bool false], by simp only [RvL, Rv]; exact ⟨h2, trivial, trivial⟩, rfl⟩, by simpa using hrun⟩
              · cases hv'
            · cases h1
          · cases h1
        · cases h1
      · cases h
    · cases h
  | convert s t x =>
    rw [ho] at h hev hcls
    have hkt : kindOf E t = .str := by
      simp only [clsOf] at hcls
      split at hcls
      · rename_i hk _; exact hk
      · cases hcls
    obtain ⟨dt, hdt, hkdt⟩ := und_of hE hkt (by simp)
    simp only [KdOk] at hkdt
    subst hkdt
    simp only [opL] at h
    split at h
    · rename_i e hes hks
      obtain ⟨d, hd, hkd⟩ := und_of hE hks (by simp)
      simp only [KdOk] at hkd
      subst hkd
      split at h
      · rename_i hke
        obtain ⟨de, hde, hkde⟩ := und_of hE hke (by simp)
        simp only [KdOk] at hkde
        subst hkde
        split at h
        · rename_i hx
          have hr := hev x (by simp [Op.operands]) _ hx
          simp only [Rv] at hr
          refine ⟨_, .string .empty, h, by simp only [Rv]; exact ⟨by simp, rfl⟩, ?_⟩
          simp [execOp, ho, hr, convert, run_underlying hd, run_underlying hdt, run_underlying hde, Conv.bytesToString]
        · rename_i id es off ln cap hx
          have hr := hev x (by simp [Op.operands]) _ hx
          obtain ⟨l, xs, h1, h2, h3, h4, h5⟩ := cellsOf_ok hS hr h
          obtain ⟨s', g1, g3, g2⟩ := strCells_ok l xs h2 h1
          have hxl := h2.length
          refine ⟨_, .string (bytesOf s'), g1, by simp only [Rv]; exact ⟨g3, trivial⟩, ?_⟩
          have hfold : ∀ (s : List Nat) (a : ByteArray), (s.map fun (b : Nat) => (b : Int)).foldl (fun r n => r.push (UInt8.ofNat n.toNat)) a = ⟨(a.data.toList ++ s.map UInt8.ofNat).toArray⟩ := by
            intro s
            induction s with
            | nil => intro a; simp
            | cons b s ih => intro a; rw [List.map_cons, List.foldl_cons, ih]; simp [ByteArray.push]
          have hsl : ∃ a c, ρe x = .slice (some a) ln c ∧ (loadCells a ln).run P w = .ok ((s'.map fun (b : Nat) => (b : Int)).map (Value.int .u8)).toArray w := by
            have hmap : (s'.map fun (b : Nat) => (b : Int)).map (Value.int .u8) = xs := by rw [g2, List.map_map]; rfl
            rw [hmap]
            rcases h5 with ⟨h0, hnil⟩ | ⟨id', off', ln', cap', L, o', c, heq, hL, hu, ho', hcell⟩
            · subst h0
              have hx0 : xs = [] := by rw [hnil] at hxl; exact List.length_eq_zero_iff.1 hxl
              have : ∃ a c, ρe x = .slice (some a) 0 c := by
                cases cap with
                | none => simp only [Rv] at hr; obtain ⟨_, _, L, c, o, _, hu, _⟩ := hr; exact ⟨_, _, hu⟩
                | some c => simp only [Rv] at hr; obtain ⟨_, _, _, L, _, hu⟩ := hr; exact ⟨_, _, hu⟩
              obtain ⟨a, c, hu⟩ := this
              exact ⟨a, c, hu, by rw [hx0]; simp [loadCells, loadCellsFrom]⟩
            · cases heq
              have hlen : ln = xs.length := by rw [hxl, h4, Nat.mul_one]
              by_cases h0 : ln = 0
              · have hx0 : xs = [] := List.length_eq_zero_iff.1 (by omega)
                exact ⟨_, c, hu, by rw [hx0, h0]; simp [loadCells, loadCellsFrom]⟩
              · refine ⟨_, c, hu, ?_⟩
                rw [hlen, ho' h0]
                exact run_loadCells_list w _ xs hcell
          obtain ⟨a, c, hu, hload⟩ := hsl
          have := run_bytesToString (P := P) w a ln c _ hload
          rw [hfold] at this
          have hb : (⟨(ByteArray.empty.data.toList ++ s'.map UInt8.ofNat).toArray⟩ : ByteArray) = bytesOf s' := rfl
          rw [hb] at this
          simp [execOp, ho, hu, convert, run_underlying hd, run_underlying hdt, run_underlying hde, this]
        · cases h
      · cases h
    · cases h
  | call c =>
    rw [ho] at h hev hcls
    simp only [opL] at h
    simp only [clsOf] at hcls
    split at hcls
    · cases hcls
    · rename_i b hc
      split at hcls <;> try cases hcls
      split at hcls
      · rename_i t hts
        split at hcls
        · rename_i kt e hk
          obtain ⟨d, hd, hkd⟩ := und_of hE hk (by simp)
          simp only [KdOk] at hkd
          subst hkd
          have hat : c.argTypes = #[t] := by apply Array.ext'; simpa using hts
          obtain ⟨cs, hrun⟩ := run_builtin (P := P) ho hc ρe
          obtain ⟨vs, h1, h2⟩ := evL_ok (ρ := ρ) (n := n) (ρe := ρe) c.args.toList (fun x hx => hev x (by simp only [Op.operands, Call.operands, hc, Array.mem_append]; exact .inr (by simpa using hx))) h
          have hargs : c.args.map ρe = (c.args.toList.map ρe).toArray := by apply Array.ext'; simp
          generalize c.args.toList.map ρe = us at h2 hargs
          rw [hargs] at hrun
          split at h1
          · match us, h2 with
            | [u], h2 =>
              simp only [RvL, Rv] at h2
              obtain ⟨rfl, _⟩ := h2
              exact ⟨_, .int .i64 0, h1, by simp only [Rv], by rw [hrun w]; simp [Go.builtin, Builtin.len_, hat, run_underlying hd, goInt]⟩
            | [], h2 => simp [RvL] at h2
            | _ :: _ :: _, h2 => simp [RvL] at h2
          · rename_i id
            match us, h2 with
            | [u], h2 =>
              simp only [RvL, Rv] at h2
              obtain ⟨⟨hid, L, hL, rfl⟩, _⟩ := h2
              split at h1
              · rename_i l cl hg
                obtain ⟨_, hobj⟩ := hS.objs id _ hg
                simp only [ObjOk] at hobj
                obtain ⟨L', es, hL', hh, hm⟩ := hobj
                rw [hL] at hL'; cases hL'
                rw [fN_eq] at h1
                have hlen : ∀ (l : List (V × V × Nat)) (es : List MapEntry), RvM ρ n l es → mlen l = es.length := by
                  intro l
                  induction l with
                  | nil => intro es h; cases es with
                    | nil => rfl
                    | cons _ _ => simp [RvM] at h
                  | cons x l ih => intro es h; cases es with
                    | nil => simp [RvM] at h
                    | cons e es => simp only [RvM] at h; simp [mlen, ih es h.2.2.2]
                have hl := hlen l es.toList hm
                refine ⟨_, .int .i64 (Int.ofNat (mlen l)), h1, by simp only [Rv], ?_⟩
                rw [hrun w]
                simp [Go.builtin, Builtin.len_, hat, run_underlying hd, run_getMap hh, goInt, hl]
              · cases h1
            | [], h2 => simp [RvL] at h2
            | _ :: _ :: _, h2 => simp [RvL] at h2
          · cases h1
        · cases hcls
      · cases hcls
    · cases hcls
  | _ => rw [ho] at h; simp [opL] at h
end
end CX
