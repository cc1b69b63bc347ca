/-
  SenseFeels: for all ears, whiskers, samples and angles, the function returns true, and its arguments read as they did.
-/
import Derived.Test.YtmnaiddobipclaaSenseFeels5
import Derived.KernelRfl
import Derived.WalkKit
import Derived.ProofKit
import Derived.JoinedCond
import Derived.RowKit3
import Derived.ChangeArms
import Derived.ChangeCalls
import Derived.WideKeyArgs
import Derived.Test.YtmnaiddobipclaaRows
/-
  CX: the closed function works() of this chapter's laws returns true, whatever the model draws: run in the kernel.
-/
namespace CX
open Go Go.Proofs

theorem names_ok : T.allB (fun fn : Func => fn.name != "runtime.NumGoroutine") fnT = true := by kernel_rfl
theorem types_ok : tabChk Try.prog env.T 184 = true := by kernel_rfl

theorem env_ok : EnvOk env Try.prog := by
  refine ⟨fun t ty h => ?_, fun f fn h => ?_, by kernel_rfl⟩
  · refine tabChk_ok 184 types_ok t ty ?_ h
    simp only [env] at h
    split at h
    · rename_i hb; simpa [Nat.blt_eq] using hb
    · cases h
  · refine ⟨T.All.get fnT id fnT_ok f fn h, ?_⟩
    have := T.All.get fnT id (T.allB_ok fnT id names_ok) f fn h
    simpa using this

theorem works_run : callF env (cx env 1000) 0 .e 0 13 [] (fun v _ _ => retV v .e 0) = some (.normal, ⟨0, 0, .n .e (some (.bool true)) .e, .e, 0, []⟩) := by kernel_rfl

/-- **works() returns true; what there was lies as it lay.** -/
theorem works_ok (w : World) : Calls Try.prog 13 #[] w fun e w' => e = .returned (.bool true) ∧ Kept w w' := by
  refine (cx_call env_ok (xs := []) (by simp [RvL]) works_run w).mono fun e w' he => ?_
  obtain ⟨u, ρ, n, rfl, h, rest⟩ := he
  simp only [Rv] at h
  subst h
  exact ⟨rfl, rest⟩
end CX

/-
  CX: how a statement is closed: the world has grown, the arguments read as they read.
-/
namespace CX
open Go Go.ChangeShapes Go.WideShapes

theorem Kept.frozen {w w' : World} (h : Kept w w') {a : Addr} (ha : a.block < w.heap.size) : w'.frozen? a = w.frozen? a := by
  simp only [World.frozen?, h.2.2.2.2 a.block ha]

theorem Kept.but {w w' : World} (h : Kept w w') (may : MemPlace → Prop) : w.keptBut w' may := by
  refine ⟨h.1, h.2.2.1, fun i hi => ?_⟩
  rw [h.2.2.2.2 i hi]
  obtain ⟨o, ho⟩ : ∃ o, w.heap[i]? = some o := ⟨w.heap[i], by simp [hi]⟩
  rw [ho]
  cases o with
  | cells c t fr => exact ⟨rfl, rfl, rfl, fun _ _ => rfl⟩
  | map es c => exact .inr ⟨rfl, rfl⟩
  | _ => rfl

section
variable {H : Type} {enc : TypeId × Value → H} {P : Program}

theorem post_kept {f : Func} {s : ChangeSpec} {apart fresh handsOn again : Bool} {W W' : World} {args : Array Value} {v : Value} {ds gs : List (DataW H)} {before pa pv : List MemPlace}
    (hW : DataW.Whole enc P f.params.toList s.vars apart W args.toList ds gs before)
    (hres : ∀ (b : Nat) (sp : Nat → Bool) (hd : Bool), DataW.TrodAll enc P W' b sp hd f.resultTypes.toList (v.resultList f.resultTypes.size) (s.fn H (ds ++ gs)).results [])
    (hargs : ∀ sp : Nat → Bool, (∀ p ∈ before, sp p.block = true) → DataW.TrodAll enc P W' 0 sp true f.params.toList args.toList (s.fn H (ds ++ gs)).args pa)
    (hvars : ∀ sp : Nat → Bool, (∀ p ∈ before, sp p.block = true) → DataW.TrodVars enc P W' sp s.vars (s.fn H (ds ++ gs)).vars pv)
    (hps : before = pa ++ pv) (hk : Kept W W')
    (hok : ∀ (j : Nat) (t : TypeId) (r : Value), f.resultTypes[j]? = some t → (v.resultList f.resultTypes.size)[j]? = some r → Value.okWide P W' .any 0 t r) :
    s.post enc P f apart fresh handsOn again W args v W' := by
  have hold : ∀ p ∈ before, (fun b => decide (b < W.heap.size)) p.block = true := fun p hp => by simpa using hW.lt p hp
  have hlt := hW.lt
  refine ⟨ds, gs, before, [], pa, pv, hW, hres _ _ _, hargs _ hold, hvars _ hold, World.keptBut_mono (fun p hp => ⟨hp, ?_⟩) (hk.but (· ∈ before)), fun _ => ?_⟩
  · rw [hps, List.mem_append] at hp
    exact Or.inr hp
  · obtain ⟨_, _, _, _, _, hz, hn⟩ := hW
    refine ⟨hok, _, _, ([] ++ pa) ++ pv, ⟨[] ++ pa, pv, trodAll_append (hargs _ (fun _ _ => rfl)) (hres _ _ _), hvars _ (fun _ _ => rfl), rfl, ?_, ?_⟩, ?_⟩
    · intro b off hp
      have hp' : MemPlace.cell b off ∈ before := by rw [hps]; simpa using hp
      rw [hk.frozen (hlt _ hp')]
      exact hz b off hp'
    · intro ha
      have := hn ha
      rw [hps] at this
      simpa using this
    · intro p hp _
      rw [hps]
      simpa using hp
end
end CX

/-
  SX: from the law of a statement's function to the statement: arguments of ints, bools, strings, slices, structs and arrays are read as data; behind the call they read as they read.
-/
namespace SX
open Go Go.ChangeShapes Go.WideShapes Go.ChangeAt Go.RowKit

/-- The kinds of a type's cells. -/
def descF (g : TypeId → Option (List Kd)) (P : Program) : List Field → Nat → Option (List Kd)
  | [], _ => some []
  | f :: r, off => match g f.type with
    | some ks => match Nat.beq f.offset off && Nat.beq (P.cellsOf f.type) ks.length with
      | true => match descF g P r (off + ks.length) with
        | some ks' => some (ks ++ ks')
        | none => none
      | false => none
    | none => none

def repK (ks : List Kd) : Nat → List Kd
  | 0 => []
  | n + 1 => ks ++ repK ks n

def desc (P : Program) : Nat → TypeId → Option (List Kd)
  | 0, _ => none
  | n + 1, t => match P.underlying t with
    | some .bool => some [.bool]
    | some (.int k) => some [.int k]
    | some .string => some [.str]
    | some (.slice e) => match desc P n e with
      | some (k :: ks) => match Nat.beq (P.cellsOf e) (ks.length + 1) with
        | true => some [.sl (k :: ks)]
        | false => none
      | _ => none
    | some (.struct fs) => match descF (desc P n) P fs.toList 0 with
      | some ks => match Nat.beq (P.cellsOf t) ks.length with
        | true => some ks
        | false => none
      | none => none
    | some (.array m e) => match desc P n e with
      | some ks => match Nat.beq (P.cellsOf e) ks.length && Nat.beq (P.cellsOf t) (repK ks m).length with
        | true => some (repK ks m)
        | false => none
      | none => none
    | _ => none

mutual
/-- Numbers are within their kinds. -/
def RngK : Kd → D → Prop
  | .int k, d => k.min ≤ d.i ∧ d.i ≤ k.max
  | .sl ks, d => ∀ r, r < d.n → RngKs ks (d.row r) 0
  | _, _ => True
def RngKs : List Kd → (Nat → D) → Nat → Prop
  | [], _, _ => True
  | k :: ks, f, c => RngK k (f c) ∧ RngKs ks f (c + 1)
end

theorem rngKs_ext : ∀ (ks : List Kd) (f f' : Nat → D) (c c' : Nat), (∀ j, j < ks.length → f (c + j) = f' (c' + j)) → RngKs ks f c → RngKs ks f' c'
  | [], _, _, _, _, _, _ => trivial
  | k :: ks, f, f', c, c', h, hr => by
    have h0 := h 0 (by simp)
    rw [Nat.add_zero, Nat.add_zero] at h0
    refine ⟨by rw [← h0]; exact hr.1, rngKs_ext ks f f' (c + 1) (c' + 1) (fun j hj => ?_) hr.2⟩
    have := h (j + 1) (by simpa using hj)
    rw [show c + 1 + j = c + (j + 1) by omega, show c' + 1 + j = c' + (j + 1) by omega]
    exact this

theorem rdKs_ext2 {w : World} {R : Nat → Prop} : ∀ (ks : List Kd) (f f' : Nat → D) (g g' : Nat → Option Value) (c c' : Nat), (∀ j, j < ks.length → f (c + j) = f' (c' + j)) → (∀ j, j < ks.length → g (c + j) = g' (c' + j)) →
    RdKs w R ks f g c → RdKs w R ks f' g' c'
  | [], _, _, _, _, _, _, _, _, _ => trivial
  | k :: ks, f, f', g, g', c, c', h, hg, hr => by
    have h0 := h 0 (by simp)
    have g0 := hg 0 (by simp)
    rw [Nat.add_zero, Nat.add_zero] at h0 g0
    refine ⟨by rw [← h0, ← g0]; exact hr.1, rdKs_ext2 ks f f' g g' (c + 1) (c' + 1) (fun j hj => ?_) (fun j hj => ?_) hr.2⟩
    · have := h (j + 1) (by simpa using hj)
      rw [show c + 1 + j = c + (j + 1) by omega, show c' + 1 + j = c' + (j + 1) by omega]
      exact this
    · have := hg (j + 1) (by simpa using hj)
      rw [show c + 1 + j = c + (j + 1) by omega, show c' + 1 + j = c' + (j + 1) by omega]
      exact this

/-- What a list of cells holds. -/
def Holds (w : World) (ks : List Kd) (cs : List Value) : Prop :=
  ∃ f : Nat → D, cs.length = ks.length ∧ RdKs w (fun b => b < w.heap.size) ks f (fun c => cs[c]?) 0 ∧ RngKs ks f 0

theorem Holds.append {w : World} {ks ks' : List Kd} {cs cs' : List Value} (h : Holds w ks cs) (h' : Holds w ks' cs') : Holds w (ks ++ ks') (cs ++ cs') := by
  obtain ⟨f, hl, hr, hg⟩ := h
  obtain ⟨f', hl', hr', hg'⟩ := h'
  refine ⟨fun c => if c < ks.length then f c else f' (c - ks.length), by simp [hl, hl'], rdKs_split ks ks' 0 ?_ ?_, ?_⟩
  · refine rdKs_ext2 ks f _ _ _ 0 0 (fun j hj => by simp [hj]) (fun j hj => ?_) hr
    simp only [Nat.zero_add]
    rw [List.getElem?_append_left (by omega)]
  · refine rdKs_ext2 ks' f' _ _ _ 0 (0 + ks.length) (fun j hj => ?_) (fun j hj => ?_) hr'
    · simp only [Nat.zero_add]
      rw [if_neg (by omega), Nat.add_sub_cancel_left]
    · simp only [Nat.zero_add]
      rw [List.getElem?_append_right (by omega), hl, Nat.add_sub_cancel_left]
  · have e : ∀ (a b : List Kd) (F : Nat → D) (c : Nat), RngKs a F c → RngKs b F (c + a.length) → RngKs (a ++ b) F c := by
      intro a
      induction a with
      | nil => intro b F c _ h; simpa using h
      | cons k a ih =>
        intro b F c h1 h2
        refine ⟨h1.1, ih b F (c + 1) h1.2 ?_⟩
        rw [List.length_cons] at h2
        rwa [show c + 1 + a.length = c + (a.length + 1) by omega]
    refine e ks ks' _ 0 (rngKs_ext ks f _ 0 0 (fun j hj => by simp [hj]) hg) (rngKs_ext ks' f' _ 0 _ (fun j hj => ?_) hg')
    simp only [Nat.zero_add]
    rw [if_neg (by omega), Nat.add_sub_cancel_left]

theorem Holds.nil {w : World} : Holds w [] [] := ⟨fun _ => .nil, rfl, trivial, trivial⟩

theorem addr_add2 (a : Addr) (i c : Nat) : (a.add i).add c = a.add (i + c) := by
  unfold Addr.add
  by_cases hi : i = 0
  · subst hi; simp
  · by_cases hc : c = 0
    · subst hc; simp [hi]
    · simp [hi, hc, Nat.add_assoc]

theorem mapM_at {α β : Type} {f : α → Option β} : ∀ {l : List α} {r : List β}, l.mapM f = some r → r.length = l.length ∧ ∀ (i : Nat) (h : i < l.length), ∃ y, f l[i] = some y ∧ r[i]? = some y
  | [], r, h => by
    simp only [List.mapM_nil, Option.pure_def, Option.some.injEq] at h
    subst h
    exact ⟨rfl, fun i h => by simp at h⟩
  | x :: xs, r, h => by
    rw [List.mapM_cons] at h
    cases hx : f x with
    | none => simp [hx] at h
    | some y =>
      cases hxs : xs.mapM f with
      | none => simp [hx, hxs] at h
      | some ys =>
        simp only [hx, hxs, Option.bind_eq_bind, Option.bind_some, Option.pure_def, Option.some.injEq] at h
        subst h
        obtain ⟨h1, h2⟩ := mapM_at hxs
        refine ⟨by simp [h1], fun i hi => ?_⟩
        cases i with
        | zero => exact ⟨y, by simpa using hx, by simp⟩
        | succ i =>
          obtain ⟨z, e1, e2⟩ := h2 i (by simpa using hi)
          exact ⟨z, by simpa using e1, by simpa using e2⟩

theorem cells_get {w : World} {base : Nat} {a : Addr} {n : Nat} {cs : List Value} (h : w.cells? base a n = some cs) : cs.length = n ∧ (0 < n → a.block < w.heap.size) ∧ ∀ c, c < n → w.cell? (a.add c) = cs[c]? := by
  unfold World.cells? at h
  split at h
  · obtain ⟨h1, h2⟩ := mapM_at h
    rw [List.length_range] at h1
    have key : ∀ c, c < n → w.cell? (a.add c) = cs[c]? := fun c hc => by
      obtain ⟨y, e1, e2⟩ := h2 c (by simpa using hc)
      rw [List.getElem_range] at e1
      rw [e1, e2]
    refine ⟨h1, fun h0 => ?_, key⟩
    obtain ⟨y, e1, _⟩ := h2 0 (by simpa using h0)
    rw [List.getElem_range] at e1
    rcases Nat.lt_or_ge a.block w.heap.size with hb | hb
    · exact hb
    · exfalso
      unfold World.cell? at e1
      rw [add_block] at e1
      rw [Array.getElem?_eq_none (by omega)] at e1
      cases e1
  · cases h

section
variable {H : Type} {enc : TypeId × Value → H} {P : Program} {w : World} {base : Nat} {spare : Nat → Bool} {held : Bool}

theorem wf_rng {k : IntKind} {n : Int} (h : (Lit.int k n).wf = true) : k.min ≤ n ∧ n ≤ k.max := by
  simpa [Lit.wf] using h

theorem holds_one {k : Kd} {d : D} {u : Value} (h : RdK w (fun b => b < w.heap.size) k d u) (hr : RngK k d) : Holds w [k] [u] :=
  ⟨fun _ => d, rfl, ⟨⟨u, rfl, h⟩, trivial⟩, hr, trivial⟩

theorem holds_rep {ks : List Kd} {cs : List Value} (m : Nat) (hl : cs.length = (repK ks m).length) (h : ∀ i, i < m → Holds w ks ((cs.drop (i * ks.length)).take ks.length)) : Holds w (repK ks m) cs := by
  induction m generalizing cs with
  | zero =>
    have : cs = [] := List.length_eq_zero_iff.1 (by simpa [repK] using hl)
    subst this
    exact Holds.nil
  | succ m ih =>
    have e : cs = cs.take ks.length ++ cs.drop ks.length := (List.take_append_drop _ _).symm
    rw [e]
    refine Holds.append (by simpa using h 0 (by omega)) (ih ?_ fun i hi => ?_)
    · simp only [List.length_drop, hl, repK, List.length_append]
      omega
    · have := h (i + 1) (by omega)
      rwa [List.drop_drop, show ks.length + i * ks.length = (i + 1) * ks.length by rw [Nat.add_mul]; omega]

theorem holds_fields {g : TypeId → Option (List Kd)} {cs : List Value} : ∀ (fs : List Field) (off : Nat) (ks : List Kd), descF g P fs off = some ks → cs.length = off + ks.length →
    (∀ f ∈ fs, ∀ ks', g f.type = some ks' → Holds w ks' ((cs.drop f.offset).take (P.cellsOf f.type))) → Holds w ks (cs.drop off)
  | [], off, ks, h, hl, _ => by
    simp only [descF, Option.some.injEq] at h
    subst h
    have : cs.drop off = [] := List.drop_eq_nil_of_le (by simp at hl; omega)
    rw [this]
    exact Holds.nil
  | f :: r, off, ks, h, hl, hf => by
    simp only [descF] at h
    split at h
    · rename_i ks1 hk
      split at h
      · rename_i hb
        simp only [Bool.and_eq_true, Nat.beq_eq] at hb
        split at h
        · rename_i ks2 hks2
          simp only [Option.some.injEq] at h
          subst h
          have e : cs.drop off = (cs.drop off).take ks1.length ++ (cs.drop off).drop ks1.length := (List.take_append_drop _ _).symm
          rw [e]
          refine Holds.append ?_ ?_
          · have := hf f (by simp) ks1 hk
            rwa [hb.1, hb.2] at this
          · rw [List.drop_drop]
            exact holds_fields r (off + ks1.length) ks2 hks2 (by rw [hl, List.length_append]; omega) (fun f' hf' => hf f' (by simp [hf']))
        · cases h
      · cases h
    · cases h

theorem trod_array {t e : TypeId} {n m : Nat} {cs : List Value} {x : DataW H × List MemPlace} (ht : P.underlying t = some (.array n e)) (h : DataW.trod enc P w base spare held (m + 1) t cs = some x) :
    cs.length = P.cellsOf t ∧ ∀ i, i < n → ∃ y, DataW.trod enc P w base spare held m e ((cs.drop (i * P.cellsOf e)).take (P.cellsOf e)) = some y := by
  unfold DataW.trod at h
  rw [ht] at h
  split at h <;> simp_all
  obtain ⟨hl, h⟩ := h
  obtain ⟨a, h, _⟩ := h
  obtain ⟨h1, h2⟩ := mapM_at h
  intro i hi
  obtain ⟨y, e1, _⟩ := h2 i (by simpa using hi)
  rw [List.getElem_range] at e1
  exact ⟨y.1, y.2, by simpa using e1⟩

/-- What reads as data by the claim's reading reads as data here. -/
theorem holds_of_trod : ∀ (n : Nat) (t : TypeId) (ks : List Kd), desc P n t = some ks → ∀ (m : Nat) (cs : List Value) (x : DataW H × List MemPlace), DataW.trod enc P w base spare held m t cs = some x → Holds w ks cs
  | 0, _, _, h, _, _, _, _ => by simp [desc] at h
  | n + 1, t, ks, h, m, cs, x, hx => by
    unfold desc at h
    split at h
    · rename_i hu
      simp only [Option.some.injEq] at h
      subst h
      obtain ⟨b, rfl, _⟩ := DataW.trod_bool hu hx
      refine holds_one (d := .ofP (b = true)) ?_ (by simp [RngK])
      simp only [RdK, D.p_ofP, Value.bool.injEq]
      rw [Bool.eq_iff_iff]
      exact (@decide_eq_true_iff _ (Classical.propDecidable _)).symm
    · rename_i k hu
      simp only [Option.some.injEq] at h
      subst h
      obtain ⟨z, rfl, _, hw⟩ := DataW.trod_int hu hx
      exact holds_one (d := .ofI z) (by simp [RdK, D.i_ofI]) (wf_rng hw)
    · rename_i hu
      simp only [Option.some.injEq] at h
      subst h
      obtain ⟨z, rfl, _, _⟩ := DataW.trod_string hu hx
      exact holds_one (d := .ofS z) (by simp [RdK, D.ofS, D.s]) (by simp [RngK])
    · rename_i e hu
      split at h
      · rename_i k ks' hd
        split at h
        · rename_i hb
          have hb : P.cellsOf e = ks'.length + 1 := Nat.eq_of_beq_eq_true hb
          simp only [Option.some.injEq] at h
          subst h
          rcases DataW.trod_slice hu hx with ⟨rfl, _⟩ | ⟨a, len, cap, elems, rest, m', rfl, rfl, _, _, h2, h3, h4, h5, _, _⟩
          · refine holds_one (d := .ofL 0 fun _ _ => .nil) ?_ ?_
            · simp only [RdK, D.n_ofL]
              exact ⟨none, 0, rfl, by omega, by omega, fun r hr => by omega⟩
            · simp only [RngK, D.n_ofL]
              exact fun r hr => by omega
          · have row : ∀ i, i < len → a.block < w.heap.size ∧ ∃ f : Nat → D, RdKs w (fun b => b < w.heap.size) (k :: ks') f (fun c => w.cell? (a.add (i * (ks'.length + 1) + c))) 0 ∧ RngKs (k :: ks') f 0 := by
              intro i hi
              have e1 := h5 i hi
              rw [List.getElem?_eq_getElem (by omega)] at e1
              obtain ⟨cs', c1, c2⟩ := Option.bind_eq_some_iff.1 e1
              obtain ⟨d1, d2, d3⟩ := cells_get c1
              rw [hb] at d1 d2 d3 c1
              obtain ⟨f, g1, g2, g3⟩ := holds_of_trod n e (k :: ks') hd m' cs' _ c2
              refine ⟨by have := d2 (by omega); rwa [add_block] at this, f, rdKs_ext2 _ f f _ _ 0 0 (fun _ _ => rfl) (fun j hj => ?_) g2, g3⟩
              simp only [Nat.zero_add]
              rw [← d3 j (by simpa using hj), addr_add2]
            refine holds_one (d := .ofL len fun i => if h : i < len then Classical.choose (row i h).2 else fun _ => .nil) ?_ ?_
            · simp only [RdK, D.n_ofL, D.row_ofL]
              refine ⟨some a, cap, rfl, h2, h3, fun r hr => ⟨a, rfl, (row r hr).1, ?_⟩⟩
              rw [dif_pos hr]
              exact (Classical.choose_spec (row r hr).2).1
            · simp only [RngK, D.n_ofL, D.row_ofL]
              intro r hr
              rw [dif_pos hr]
              exact (Classical.choose_spec (row r hr).2).2
        · cases h
      · cases h
    · rename_i fs hu
      split at h
      · rename_i ks' hd
        split at h
        · rename_i hb
          have hb := Nat.eq_of_beq_eq_true hb
          simp only [Option.some.injEq] at h
          subst h
          obtain ⟨xs, m', rfl, _, hl, hxs, hf⟩ := DataW.trod_struct hu hx
          have := holds_fields (w := w) (cs := cs) fs.toList 0 ks' hd (by rw [hl, hb]; simp) (fun f hm ks1 hk1 => ?_)
          · simpa using this
          · obtain ⟨i, hi, rfl⟩ := List.mem_iff_getElem.1 hm
            have hi' : i < fs.size := by simpa using hi
            have e1 := hf i fs[i] (by simp [hi'])
            rw [List.getElem?_eq_getElem (by omega)] at e1
            have e2 : fs.toList[i] = fs[i] := by simp
            rw [e2] at hk1 ⊢
            exact holds_of_trod n _ ks1 hk1 m' _ _ e1
        · cases h
      · cases h
    · rename_i m0 e hu
      split at h
      · rename_i ks' hd
        split at h
        · rename_i hb
          simp only [Bool.and_eq_true, Nat.beq_eq] at hb
          simp only [Option.some.injEq] at h
          subst h
          cases m with
          | zero => simp [DataW.trod] at hx
          | succ m' =>
            obtain ⟨hl, hi⟩ := trod_array hu hx
            refine holds_rep m0 (by rw [hl, hb.2]) fun i h => ?_
            obtain ⟨y, hy⟩ := hi i h
            rw [hb.1] at hy
            exact holds_of_trod n e ks' hd m' _ y hy
        · cases h
      · cases h
    · cases h

def isAgg (P : Program) (t : TypeId) : Bool := match P.underlying t with
  | some (.struct _) => true
  | some (.array _ _) => true
  | _ => false

def descAll (P : Program) (n : Nat) : List TypeId → Option (List (Bool × List Kd))
  | [] => some []
  | t :: r => match desc P n t, descAll P n r with
    | some ks, some l => some ((isAgg P t, ks) :: l)
    | _, _ => none

/-- Numbers of arguments are within their kinds. -/
def RngAll : List (Bool × List Kd) → List (List D) → Prop
  | (_, ks) :: r, d :: ds => RngKs ks (fun c => d.getD c .nil) 0 ∧ RngAll r ds
  | _, _ => True

def trueRes (_ : List (List D)) (_ _ : Nat) : D := .ofP True

theorem shape_of {r : Reach} {n : Nat} {t : TypeId} {ks : List Kd} {v : Value} (hd : desc P n t = some ks) (h : Value.okWide P w r base t v) :
    (isAgg P t = true → v = .agg (v.cells.toList).toArray) ∧ (isAgg P t = false → v.cells.toList = [v]) := by
  cases n with
  | zero => simp [desc] at hd
  | succ n =>
    unfold desc at hd
    unfold isAgg
    split at hd
    · rename_i hu
      obtain ⟨b, rfl⟩ := okWide_bool hu h
      rw [hu]
      exact ⟨fun h => (by cases h), fun _ => rfl⟩
    · rename_i k hu
      obtain ⟨z, rfl⟩ := okWide_int hu h
      rw [hu]
      exact ⟨fun h => (by cases h), fun _ => rfl⟩
    · rename_i hu
      obtain ⟨z, rfl⟩ := okWide_string hu h
      rw [hu]
      exact ⟨fun h => (by cases h), fun _ => rfl⟩
    · rename_i e hu
      obtain ⟨a, l, c, rfl⟩ := okWide_slice hu h
      rw [hu]
      exact ⟨fun h => (by cases h), fun _ => rfl⟩
    · rename_i fs hu
      obtain ⟨cs, rfl, _⟩ := okWide_struct hu h
      rw [hu]
      exact ⟨fun _ => by simp [Value.cells], fun h => by cases h⟩
    · rename_i m e hu
      have : ∃ cs, v = .agg cs := by
        unfold Value.okWide at h
        rw [hu] at h
        obtain ⟨cs, hc, _⟩ := h
        exact ⟨cs, hc⟩
      obtain ⟨cs, rfl⟩ := this
      rw [hu]
      exact ⟨fun _ => by simp [Value.cells], fun h => by cases h⟩
    · cases hd

theorem args_read {r : Reach} {n : Nat} : ∀ (ts : List TypeId) (params : List (Bool × List Kd)) (vs : List Value) (ds : List (DataW H)) (ps : List MemPlace), descAll P n ts = some params →
    (∀ (j : Nat) t v, ts[j]? = some t → vs[j]? = some v → Value.okWide P w r base t v) → DataW.TrodAll enc P w 0 spare held ts vs ds ps →
    ∃ dss, ArgsRd w (fun b => b < w.heap.size) params dss vs ∧ RngAll params dss
  | [], params, vs, ds, ps, hd, _, h => by
    simp only [descAll, Option.some.injEq] at hd
    subst hd
    obtain ⟨rfl, _, _⟩ := trodAll_nil h
    exact ⟨[], trivial, trivial⟩
  | t :: ts, params, vs, ds, ps, hd, hok, h => by
    unfold descAll at hd
    split at hd
    · rename_i ks l hks hl
      simp only [Option.some.injEq] at hd
      subst hd
      cases vs with
      | nil => simp [DataW.TrodAll] at h
      | cons v vs =>
        cases ds with
        | nil => simp [DataW.TrodAll] at h
        | cons d ds =>
          obtain ⟨p, q, ⟨m, hm⟩, h2, _⟩ := h
          obtain ⟨f, g1, g2, g3⟩ := holds_of_trod n t ks hks m _ _ hm
          obtain ⟨dss, i1, i2⟩ := args_read ts l vs ds q hl (fun j t' v' ht hv => hok (j + 1) t' v' (by simpa using ht) (by simpa using hv)) h2
          obtain ⟨s1, s2⟩ := shape_of hks (hok 0 t v (by simp) (by simp))
          have e : ∀ j, j < ks.length → f (0 + j) = (((List.range ks.length).map f).getD (0 + j) .nil) := fun j hj => by simp [List.getD_eq_getElem?_getD, hj]
          refine ⟨(List.range ks.length).map f :: dss, ⟨by simp, ⟨v.cells.toList, s1, s2, g1, rdKs_ext2 ks f _ _ _ 0 0 e (fun _ _ => rfl) g2⟩, i1⟩, rngKs_ext ks f _ 0 0 e g3, i2⟩
    · cases hd

theorem Kept_same {W W' : World} (h : CX.Kept W W') {p : MemPlace} (hp : p.block < W.heap.size) : W.sameAt W' p := by
  cases p with
  | cell b off =>
    simp only [World.sameAt, World.cell?]
    rw [h.2.2.2.2 b hp]
  | map b => exact h.2.2.2.2 b hp

theorem args_stay (hl : laidOutB P = true) {W W' : World} {sp : Nat → Bool} : ∀ {ts : List TypeId} {vs : List Value} {ds : List (DataW H)} {ps : List MemPlace}, (ts.all fun t => P.readableRec t && decide (t < P.types.size)) = true →
    DataW.TrodAll enc P W base (fun _ => true) true ts vs ds ps → (∀ p ∈ ps, W.sameAt W' p) → (∀ p ∈ ps, sp p.block = true) → DataW.TrodAll enc P W' base sp true ts vs ds ps
  | [], vs, ds, ps, _, h, _, _ => by
    obtain ⟨rfl, rfl, rfl⟩ := trodAll_nil h
    exact trodAll_mk0
  | t :: ts, [], ds, ps, _, h, _, _ => by simp [DataW.TrodAll] at h
  | t :: ts, v :: vs, [], ps, _, h, _, _ => by simp [DataW.TrodAll] at h
  | t :: ts, v :: vs, d :: ds, ps, hr, h, h1, h2 => by
    obtain ⟨p, q, ha, hb, rfl⟩ := h
    simp only [List.all_cons, Bool.and_eq_true, decide_eq_true_eq] at hr
    exact ⟨p, q, Go.WideElems.Trod_stays hl hr.1.1 hr.1.2 ha (fun x hx => h1 x (by simp [hx])) (fun x hx => h2 x (by simp [hx])),
      args_stay hl (by simpa using hr.2) hb (fun x hx => h1 x (by simp [hx])) (fun x hx => h2 x (by simp [hx])), rfl⟩

/-- **From the law of a statement's function to what the statement asks.** -/
theorem said {fnum : FuncId} {f : Func} {s : ChangeSpec} {fresh handsOn again : Bool} {n : Nat} {params : List (Bool × List Kd)} {tb : TypeId}
    (hpure : PureFn P ⟨params, [(false, [.bool])]⟩ fnum (RngAll params) trueRes) (hd : descAll P n f.params.toList = some params) (hl : laidOutB P = true)
    (hr : (f.params.toList.all fun t => P.readableRec t && decide (t < P.types.size)) = true) (hres : f.resultTypes = #[tb]) (hb : P.underlying tb = some .bool)
    (hs : ∀ ds : List (DataW H), ds.length = f.params.toList.length → s.fn H ds = ⟨[.lit (.bool true)], ds, []⟩) (hv : s.vars = []) {apart : Bool} (W : World) (base : Nat) (args : Array Value) (ds gs : List (DataW H)) (before : List MemPlace)
    (hval : ∀ (j : Nat) t v, f.params[j]? = some t → args[j]? = some v → Value.okWide P W .any base t v) (hW : DataW.Whole enc P f.params.toList s.vars apart W args.toList ds gs before) :
    Calls P fnum args W fun e W' => ∃ v, e = .returned v ∧ s.post enc P f apart fresh handsOn again W args v W' := by
  have hW' := hW
  obtain ⟨p, q, hA, hV, rfl, _, _⟩ := hW
  rw [hv] at hV
  obtain ⟨rfl, rfl⟩ := trodVars_none hV
  obtain ⟨dss, h1, h2⟩ := args_read (r := .any) (base := base) f.params.toList params args.toList ds p hd (fun j t v ht hv => hval j t v (by simpa using ht) (by simpa using hv)) hA
  have hlen := (trodAll_length hA).2
  have hfn : s.fn H (ds ++ []) = ⟨[.lit (.bool true)], ds, []⟩ := by rw [List.append_nil]; exact hs ds hlen
  have hcall := hpure W (fun b => b < W.heap.size) args.toList dss (fun _ h => h) h1 h2
  rw [show args.toList.toArray = args by simp] at hcall
  refine hcall.mono fun e W' h => ?_
  obtain ⟨us, R', rfl, hg, hR1, hR2, hrd⟩ := h
  have hu : us = [.bool true] := by
    cases us with
    | nil => simp [ResRd] at hrd
    | cons u us =>
      cases us with
      | cons _ _ => simp [ResRd] at hrd
      | nil =>
        obtain ⟨⟨cs, _, c2, c3, c4⟩, _⟩ := hrd
        have c2 := c2 rfl
        subst c2
        simp only [RdKs, RdK, and_true] at c4
        obtain ⟨z, hz, hz'⟩ := c4
        simp only [List.getElem?_cons_zero, Option.some.injEq] at hz
        subst hz
        rw [hz', @decide_eq_true _ (Classical.propDecidable _) (show (trueRes dss 0 0).p from trivial)]
  subst hu
  have hk : CX.Kept W W' := ⟨hg.os, hg.tape, hg.output, hg.size, hg.keep⟩
  have hlt := hW'.lt
  simp only [List.append_nil] at hW' hlt
  refine ⟨_, rfl, CX.post_kept (pa := p) (pv := []) hW' (fun b sp hd => ?_) (fun sp hsp => ?_) (fun sp _ => ?_) (by simp) hk (ok_one hres rfl (okWide_bool_mk hb _))⟩
  · rw [hfn, hres]
    exact trodAll_mk1 (shut_bool hb _)
  · rw [hfn]
    exact args_stay hl hr hA (fun x hx => Kept_same hk (hlt x hx)) (fun x hx => hsp x hx)
  · rw [hfn, hv]
    rfl
end
end SX

/-
  SenseFeels: the statement's own function returns true.
-/
namespace SX
open Go Go.Proofs
set_option maxRecDepth 100000

theorem works_pure : PureFn Try.prog ⟨[], [BOO]⟩ 13 (fun _ => True) trueRes := by
  intro w R args ds hR hargs _
  have e : args = [] := by
    cases args with
    | nil => rfl
    | cons a l => cases ds <;> simp [ArgsRd] at hargs
  subst e
  refine (CX.works_ok w).mono fun e w' h => ?_
  obtain ⟨he, h1, h2, h3, h4, h5⟩ := h
  refine ⟨[.bool true], R, he, ⟨h1, h2, h3, h4, h5⟩, fun b hb => hb, fun b hb => .inl hb, ⟨⟨[.bool true], by simp, by simp, rfl, ?_⟩, trivial⟩⟩
  simp only [RdKs, RdK, and_true]
  exact ⟨_, rfl, congrArg Value.bool (@decide_eq_true _ (Classical.propDecidable _) (show (trueRes ds 0 0).p from trivial)).symm⟩

def STR : Bool × List Kd := (true, [.int .i64, .int .i64])
noncomputable def cHear : Ctr := ⟨23, ⟨[STR, INS], [EVS, I64]⟩, fun _ => True, hearRes⟩
noncomputable def cHearR : Ctr := ⟨24, ⟨[STR, INS], [EVS, I64]⟩, fun _ => True, hearRes⟩
noncomputable def cFeel : Ctr := ⟨25, ⟨[STR, INS], [EVS, I64]⟩, fun _ => True, feelRes⟩
noncomputable def cFeelR : Ctr := ⟨26, ⟨[STR, INS], [EVS, I64]⟩, fun _ => True, feelRes⟩
noncomputable def cWorks : Ctr := ⟨13, ⟨[], [BOO]⟩, fun _ => True, trueRes⟩
noncomputable def cs2 : List Ctr := [cEvents, cHear, cHearR, cFeel, cFeelR, cWorks]
noncomputable def sg2 : List (Nat × Sig) := cs2.map fun c => (c.f, c.sg)

theorem evEq_refl (n : Nat) (f : Nat → Nat → D) : evEq (D.ofL n f) (D.ofL n f) := ⟨rfl, fun _ _ => ⟨rfl, rfl⟩⟩

theorem senseFeels_pure {A pre fn} (hE : EnvOk ⟨A, tabF, sigL sg2, pre, fn, inlL inlH, cmpL cmpT⟩ Try.prog) (H : Has pre fn cs2) : PureFn Try.prog ⟨[STR, INS, STR, INS], [BOO]⟩ 4
    (RngAll [STR, INS, STR, INS]) trueRes := by
  have hf := Try.func4
  have h17 := H cEvents (by simp [cs2])
  have h23 := H cHear (by simp [cs2])
  have h24 := H cHearR (by simp [cs2])
  have h25 := H cFeel (by simp [cs2])
  have h26 := H cFeelR (by simp [cs2])
  have h13 := H cWorks (by simp [cs2])
  simp only [cEvents, cHear, cHearR, cFeel, cFeelR, cWorks] at h17 h23 h24 h25 h26 h13
  generalize Try.prog = P at *
  refine PureFn.of_vc hE 0 hf ?_
  intro c1 c2 s hs w1 w2 a ha _
  have hA := hE.A
  simp only [] at hA
  generalize hR : trueRes = R at h13
  have fin : ∀ p : Prop, p → DEq .bool (A.ofP p) (R [[c1, c2], [s], [w1, w2], [a]] 0 0) := fun p hp => ⟨by
    subst hR hA
    simpa [dEq, trueRes, Ar.std, D.ofP, D.p] using hp⟩
  cbv
  repeat' (first | (refine Br.mk (fun _ => ?_) (fun _ => ?_) <;> cbv) | refine And.intro ?_ ?_ | exact True.intro)
  all_goals (try (first | (rw [h13.1]; exact True.intro) | (rw [h17.1]; exact True.intro) | (rw [h23.1]; exact True.intro) | (rw [h24.1]; exact True.intro) | (rw [h25.1]; exact True.intro) | (rw [h26.1]; exact True.intro)))
  all_goals (try (
    refine fin _ ?_
    (try clear hE)
    subst hA
    rw [h13.2, h17.2, h23.2, h24.2, h25.2, h26.2] at *
    subst hR
    simp only [Ar.std, eventsRes, trueRes, arg, D.p_ofP, List.getD_cons_zero, List.getD_cons_succ, evEq_refl, not_true_eq_false, not_false_eq_true] at *
    done))
end SX

/-
  SenseFeels: for all ears, whiskers, samples and angles, the function returns true, and its arguments read as they did.
-/
namespace Go.Proofs.Ytmnaiddobipclaa.senseFeels
open Go.ChangeShapes Go.WideShapes Go.ChangeAt Go.RowKit SX

theorem own : ownKnob Try.prog.godebug = none := by kernel_rfl
theorem laid : laidOutB Try.prog = true := by kernel_rfl
theorem mixed : Try.prog.follows .mixedOrders = true := by kernel_rfl

theorem inl_ok : ∀ x ∈ inlH, fnOk Try.prog x.1 x.2 := by
  intro x hx
  simp only [inlH, List.mem_cons, List.not_mem_nil, or_false] at hx
  rcases hx with rfl | rfl | rfl | rfl
  · exact ⟨Try.func60, by kernel_rfl, by kernel_rfl⟩
  · exact ⟨Try.func61, by kernel_rfl, by kernel_rfl⟩
  · exact ⟨Try.func85, by kernel_rfl, by kernel_rfl⟩
  · exact ⟨Try.func86, by kernel_rfl, by kernel_rfl⟩

theorem has_self : ∀ (l : List Ctr), (l.map (·.f)).Nodup → Has (preOf l) (resOf l) l := by
  intro l hn c hc
  have key : ∀ l : List Ctr, (l.map (·.f)).Nodup → c ∈ l → ctrOf l c.f = some c := by
    intro l
    induction l with
    | nil => intro _ h; cases h
    | cons d r ih =>
      intro hn hc
      simp only [List.map_cons, List.nodup_cons] at hn
      simp only [ctrOf]
      rcases List.mem_cons.1 hc with rfl | hc
      · rw [if_pos rfl]
      · rw [if_neg fun e => hn.1 (by rw [e]; exact List.mem_map.2 ⟨c, hc, rfl⟩)]
        exact ih hn.2 hc
  have k := key l hn hc
  exact ⟨by funext ds; simp only [preOf, k], by funext ds; simp only [resOf, k]⟩

theorem env0 : EnvOk ⟨Ar.std, tabF, sigL [], preOf [], resOf [], inlL inlH, cmpL cmpT⟩ Try.prog := envOk_of tab_ok cmp_ok mixed inlH inl_ok [] (fun c hc => by cases hc)

theorem env1 : EnvOk ⟨Ar.std, tabF, sigL sg1, preOf cs1, resOf cs1, inlL inlH, cmpL cmpT⟩ Try.prog := envOk_of tab_ok cmp_ok mixed inlH inl_ok cs1 (fun c hc => by
  simp only [cs1, List.mem_cons, List.not_mem_nil, or_false] at hc
  rcases hc with rfl | rfl | rfl | rfl
  · exact ⟨in_pure env0, _, Try.func50, by kernel_rfl, by kernel_rfl⟩
  · exact ⟨within_pure env0, _, Try.func53, by kernel_rfl, by kernel_rfl⟩
  · exact ⟨events_pure env0, _, Try.func17, by kernel_rfl, by kernel_rfl⟩
  · exact ⟨down_pure env0, _, Try.func62, by kernel_rfl, by kernel_rfl⟩)

theorem has1 : Has (preOf cs1) (resOf cs1) cs1 := has_self cs1 (by decide)

theorem env2 : EnvOk ⟨Ar.std, tabF, sigL sg2, preOf cs2, resOf cs2, inlL inlH, cmpL cmpT⟩ Try.prog := envOk_of tab_ok cmp_ok mixed inlH inl_ok cs2 (fun c hc => by
  simp only [cs2, List.mem_cons, List.not_mem_nil, or_false] at hc
  rcases hc with rfl | rfl | rfl | rfl | rfl | rfl
  · exact ⟨events_pure env0, _, Try.func17, by kernel_rfl, by kernel_rfl⟩
  · exact ⟨hear_pure env1 has1, _, Try.func23, by kernel_rfl, by kernel_rfl⟩
  · exact ⟨refHear_pure env1 has1, _, Try.func24, by kernel_rfl, by kernel_rfl⟩
  · exact ⟨feel_pure env1 has1, _, Try.func25, by kernel_rfl, by kernel_rfl⟩
  · exact ⟨refFeel_pure env1 has1, _, Try.func26, by kernel_rfl, by kernel_rfl⟩
  · exact ⟨works_pure, _, Try.func13, by kernel_rfl, by kernel_rfl⟩)

theorem has2 : Has (preOf cs2) (resOf cs2) cs2 := has_self cs2 (by decide)

theorem law : PureFn Try.prog ⟨[STR, INS, STR, INS], [(false, [.bool])]⟩ 4 (RngAll [STR, INS, STR, INS]) trueRes := senseFeels_pure env2 has2

theorem len4 {α β : Type} {F : List α → β} {G : List α → β} (h : ∀ a b c d, F [a, b, c, d] = G [a, b, c, d]) : ∀ ds : List α, ds.length = 4 → F ds = G ds
  | [a, b, c, d], _ => h a b c d

set_option maxRecDepth 100000 in
set_option maxHeartbeats 400000 in
theorem lifted (os : Os) (started : os.Started) (H : Type) (enc : TypeId × Value → H) :
    ReturnsInHanded {} Try.checked os 4 .any (Rows.senseFeelsSpec.pre6 enc Try.prog Try.f4 Rows.senseFeelsRow.domain false) (Rows.senseFeelsSpec.post enc Try.prog Try.f4 false true false false) := by
  refine returnsInHanded_of_change (C := Try.checked) own started (by kernel_rfl) Try.func4
    (ChangeSpec.witness6 (enc := enc) (C := Try.checked) false ⟨#[], #[.agg #[.int .i64 0, .int .i64 0], .slice none 0 0, .agg #[.int .i64 0, .int .i64 0], .slice none 0 0], []⟩ 8 (by kernel_rfl) (by kernel_rfl) (by kernel_rfl) (by kernel_rfl)) ?_
  intro W base args ds gs before hval hW _ _
  exact said (f := Try.f4) (s := Rows.senseFeelsSpec) (n := 8) (tb := 4) law (by kernel_rfl) laid (by kernel_rfl) rfl Try.underlying4
    (len4 (F := Rows.senseFeelsSpec.fn H) (G := fun ds => ⟨[.lit (.bool true)], ds, []⟩) fun _ _ _ _ => rfl) rfl W base args ds gs before hval hW

theorem holds : Rows.SenseFeelsSaid :=
  OpenClaim.holds_of_wide 4 Try.f4 rfl rfl rfl rfl rfl rfl rfl ⟨rfl, rfl, rfl, rfl, rfl⟩ rfl rfl rfl rfl rfl (by kernel_rfl) Try.func4 (by kernel_rfl)
    (of_decide_eq_true (by kernel_rfl)) (by unfold Func.isWrapper; first | (rw [if_pos (by decide +kernel)]; kernel_rfl) | (rw [if_neg (by decide +kernel)]; exact ⟨rfl, rfl⟩))
    (fun os started H enc _ => lifted os started H enc)
end Go.Proofs.Ytmnaiddobipclaa.senseFeels
