/-
  Texts of the executors: HxClose, HxOwn, HxCtr, V22, V23, V19, V49, V50, V53, V54, V55, V56, V88, V15, V16, V20, MbB, MoD, MoL, MoM, MoN, MoP, V17, V18, V21, MbN.
-/
import Derived.Test.YtcpndododgchbaaMeshRoutes7
set_option linter.all false
namespace HX
open Go Go.Proofs Go.ChangeShapes Go.WideShapes Go.ChangeAt Go.RowKit CX

def descF (g : TypeId → Option (List Kd)) (P : Program) : List Field → Nat → Option (List Kd)
  | [], _ => some []
  | f :: r, off => match g f.type with
    | some ks => match beqN f.offset off && beqN (P.cellsOf f.type) ks.length with
      | true => match descF g P r (off + ks.length) with
        | some ks' => some (ks ++ ks')
        | none => none
      | false => none
    | none => none

def repK (ks : List Kd) : Nat → List Kd
  | 0 => []
  | n + 1 => ks ++ repK ks n

def desc (P : Program) : Nat → TypeId → Option (List Kd)
  | 0, _ => none
  | n + 1, t => match P.underlying t with
    | some .bool => some [.bool]
    | some (.int k) => some [.int k]
    | some .string => some [.str]
    | some (.slice e) => match desc P n e with
      | some (k :: ks) => match beqN (P.cellsOf e) (ks.length + 1) with
        | true => some [.sl (k :: ks)]
        | false => none
      | _ => none
    | some (.struct fs) => match descF (desc P n) P fs.toList 0 with
      | some ks => match beqN (P.cellsOf t) ks.length with
        | true => some ks
        | false => none
      | none => none
    | some (.array m e) => match desc P n e with
      | some ks => match beqN (P.cellsOf e) ks.length && beqN (P.cellsOf t) (repK ks m).length with
        | true => some (repK ks m)
        | false => none
      | none => none
    | _ => none

mutual
def RngK : Kd → D → Prop
  | .int k, d => k.min ≤ d.int ∧ d.int ≤ k.max
  | .str, d => ∀ b ∈ d.str, b < 256
  | .sl ks, d => ∀ row ∈ d.rows, RngL ks row
  | _, _ => True
def RngL : List Kd → List D → Prop
  | k :: ks, d :: ds => RngK k d ∧ RngL ks ds
  | _, _ => True
end

mutual
def RdK (w : World) : Kd → D → Value → Prop
  | .int k, d, u => (∃ n, d = .i n) ∧ u = .int k d.int
  | .bool, d, u => (∃ b, d = .b b) ∧ u = .bool d.boo
  | .str, d, u => (∃ s, d = .s s) ∧ u = .string (bytesOf d.str)
  | .fnc _, _, _ => False
  | .pt _, _, _ => False
  | .sl ks, d, u => (∃ rows, d = .l rows ∧ LenR ks rows) ∧ 0 < ks.length ∧ ((d.rows = [] ∧ u = .slice none 0 0) ∨ ∃ a cap, u = .slice (some a) d.rows.length cap ∧ d.rows.length ≤ cap ∧
      ∀ i row, d.rows[i]? = some row → ∃ cs : List Value, (∀ c, c < ks.length → w.cell? (a.add (i * ks.length + c)) = cs[c]?) ∧ RdL w ks row cs)
def RdL (w : World) : List Kd → List D → List Value → Prop
  | [], [], [] => True
  | k :: ks, d :: ds, c :: cs => RdK w k d c ∧ RdL w ks ds cs
  | _, _, _ => False
end

def Holds (w : World) (ks : List Kd) (cs : List Value) : Prop := ∃ l, RdL w ks l cs ∧ RngL ks l

theorem RdL.append {w : World} : ∀ {ks ks' : List Kd} {l l' : List D} {cs cs' : List Value}, RdL w ks l cs → RdL w ks' l' cs' → RdL w (ks ++ ks') (l ++ l') (cs ++ cs')
  | [], _, [], _, [], _, _, h => h
  | _ :: _, _, _ :: _, _, _ :: _, _, h, h' => by
    simp only [RdL, List.cons_append] at h ⊢
    exact ⟨h.1, RdL.append h.2 h'⟩
  | [], _, [], _, _ :: _, _, h, _ => by simp [RdL] at h
  | [], _, _ :: _, _, _, _, h, _ => by simp [RdL] at h
  | _ :: _, _, [], _, _, _, h, _ => by simp [RdL] at h
  | _ :: _, _, _ :: _, _, [], _, h, _ => by simp [RdL] at h

theorem RdL.len {w : World} : ∀ {ks : List Kd} {l : List D} {cs : List Value}, RdL w ks l cs → l.length = ks.length ∧ cs.length = ks.length
  | [], [], [], _ => ⟨rfl, rfl⟩
  | _ :: _, _ :: _, _ :: _, h => by
    simp only [RdL] at h
    have := RdL.len h.2
    exact ⟨by simp [this.1], by simp [this.2]⟩
  | [], [], _ :: _, h => by simp [RdL] at h
  | [], _ :: _, _, h => by simp [RdL] at h
  | _ :: _, [], _, h => by simp [RdL] at h
  | _ :: _, _ :: _, [], h => by simp [RdL] at h

theorem RngL.append : ∀ {ks ks' : List Kd} {l l' : List D}, l.length = ks.length → RngL ks l → RngL ks' l' → RngL (ks ++ ks') (l ++ l')
  | [], _, [], _, _, _, h => h
  | _ :: _, _, _ :: _, _, hl, h, h' => by
    simp only [RngL, List.cons_append] at h ⊢
    exact ⟨h.1, RngL.append (by simpa using hl) h.2 h'⟩
  | [], _, _ :: _, _, hl, _, _ => by simp at hl
  | _ :: _, _, [], _, hl, _, _ => by simp at hl

theorem Holds.append {w : World} {ks ks' : List Kd} {cs cs' : List Value} (h : Holds w ks cs) (h' : Holds w ks' cs') : Holds w (ks ++ ks') (cs ++ cs') := by
  obtain ⟨l, a, b⟩ := h
  obtain ⟨l', a', b'⟩ := h'
  exact ⟨l ++ l', a.append a', b.append a.len.1 b'⟩

theorem Holds.nil {w : World} : Holds w [] [] := ⟨[], trivial, trivial⟩

section
variable {H : Type} {enc : TypeId × Value → H} {P : Program} {w : World} {base : Nat} {spare : Nat → Bool} {held : Bool}

theorem holds_one {k : Kd} {d : D} {u : Value} (h : RdK w k d u) (hr : RngK k d) : Holds w [k] [u] := ⟨[d], ⟨h, trivial⟩, ⟨hr, trivial⟩⟩

theorem holds_rep {ks : List Kd} {cs : List Value} (m : Nat) (hl : cs.length = (repK ks m).length) (h : ∀ i, i < m → Holds w ks ((cs.drop (i * ks.length)).take ks.length)) : Holds w (repK ks m) cs := by
  induction m generalizing cs with
  | zero =>
    have : cs = [] := List.length_eq_zero_iff.1 (by simpa [repK] using hl)
    subst this
    exact Holds.nil
  | succ m ih =>
    have e : cs = cs.take ks.length ++ cs.drop ks.length := (List.take_append_drop _ _).symm
    rw [e]
    refine Holds.append (by simpa using h 0 (by omega)) (ih ?_ fun i hi => ?_)
    · simp only [List.length_drop, hl, repK, List.length_append]
      omega
    · have := h (i + 1) (by omega)
      rwa [List.drop_drop, show ks.length + i * ks.length = (i + 1) * ks.length by rw [Nat.add_mul]; omega]

theorem holds_fields {g : TypeId → Option (List Kd)} {cs : List Value} : ∀ (fs : List Field) (off : Nat) (ks : List Kd), descF g P fs off = some ks → cs.length = off + ks.length →
    (∀ f ∈ fs, ∀ ks', g f.type = some ks' → Holds w ks' ((cs.drop f.offset).take (P.cellsOf f.type))) → Holds w ks (cs.drop off)
  | [], off, ks, h, hl, _ => by
    simp only [descF, Option.some.injEq] at h
    subst h
    have : cs.drop off = [] := List.drop_eq_nil_of_le (by simp at hl; omega)
    rw [this]
    exact Holds.nil
  | f :: r, off, ks, h, hl, hf => by
    simp only [descF] at h
    split at h
    · rename_i ks1 hk
      split at h
      · rename_i hb
        simp only [Bool.and_eq_true, beqN_iff] at hb
        split at h
        · rename_i ks2 hks2
          simp only [Option.some.injEq] at h
          subst h
          have e : cs.drop off = (cs.drop off).take ks1.length ++ (cs.drop off).drop ks1.length := (List.take_append_drop _ _).symm
          rw [e]
          refine Holds.append ?_ ?_
          · have := hf f (by simp) ks1 hk
            rwa [hb.1, hb.2] at this
          · rw [List.drop_drop]
            exact holds_fields r (off + ks1.length) ks2 hks2 (by rw [hl, List.length_append]; omega) (fun f' hf' => hf f' (by simp [hf']))
        · cases h
      · cases h
    · cases h

theorem bytes_of (z : ByteArray) : bytesOf (z.data.toList.map UInt8.toNat) = z := by
  obtain ⟨d⟩ := z
  simp only [bytesOf, List.map_map]
  congr 1
  have : (UInt8.ofNat ∘ UInt8.toNat) = id := by funext x; simp
  rw [this]
  simp

theorem holds_of_trod : ∀ (n : Nat) (t : TypeId) (ks : List Kd), desc P n t = some ks → ∀ (m : Nat) (cs : List Value) (x : DataW H × List MemPlace), DataW.trod enc P w base spare held m t cs = some x → Holds w ks cs
  | 0, _, _, h, _, _, _, _ => by simp [desc] at h
  | n + 1, t, ks, h, m, cs, x, hx => by
    unfold desc at h
    split at h
    · rename_i hu
      simp only [Option.some.injEq] at h
      subst h
      obtain ⟨b, rfl, _⟩ := DataW.trod_bool hu hx
      exact holds_one (d := .b b) ⟨⟨_, rfl⟩, rfl⟩ trivial
    · rename_i k hu
      simp only [Option.some.injEq] at h
      subst h
      obtain ⟨z, rfl, _, hw⟩ := DataW.trod_int hu hx
      exact holds_one (d := .i z) ⟨⟨_, rfl⟩, rfl⟩ (HB.wf_rng hw)
    · rename_i hu
      simp only [Option.some.injEq] at h
      subst h
      obtain ⟨z, rfl, _, _⟩ := DataW.trod_string hu hx
      refine holds_one (d := .s (z.data.toList.map UInt8.toNat)) ⟨⟨_, rfl⟩, ?_⟩ ?_
      · show Value.string z = .string (bytesOf (z.data.toList.map UInt8.toNat))
        rw [bytes_of]
      · intro b hb
        obtain ⟨x, _, rfl⟩ := List.mem_map.1 (show b ∈ z.data.toList.map UInt8.toNat from hb)
        exact x.toNat_lt
    · rename_i e hu
      split at h
      · rename_i k ks' hd
        split at h
        · rename_i hb
          have hb : P.cellsOf e = ks'.length + 1 := by rw [beqN_iff] at hb; exact hb
          simp only [Option.some.injEq] at h
          subst h
          rcases DataW.trod_slice hu hx with ⟨rfl, _⟩ | ⟨a, len, cap, elems, rest, m', rfl, rfl, _, _, h2, h3, h4, h5, _, _⟩
          · exact holds_one (d := .l []) ⟨⟨_, rfl, fun _ h => (by cases h), by simp⟩, by simp, .inl ⟨rfl, rfl⟩⟩ (fun _ h => (by cases h))
          · have row : ∀ i, i < len → ∃ l cs', (∀ c, c < ks'.length + 1 → w.cell? (a.add (i * (ks'.length + 1) + c)) = cs'[c]?) ∧ RdL w (k :: ks') l cs' ∧ RngL (k :: ks') l := by
              intro i hi
              have e1 := h5 i hi
              rw [List.getElem?_eq_getElem (by omega)] at e1
              obtain ⟨cs', c1, c2⟩ := Option.bind_eq_some_iff.1 e1
              obtain ⟨d1, d2, d3⟩ := HB.cells_get c1
              rw [hb] at d1 d2 d3 c1
              obtain ⟨l, g1, g2⟩ := holds_of_trod n e (k :: ks') hd m' cs' _ c2
              refine ⟨l, cs', fun c hc => ?_, g1, g2⟩
              rw [← d3 c hc, HB.addr_add2]
            let rows : Rows := (List.range len).map fun i => if h : i < len then Classical.choose (row i h) else []
            have hlen : rows.length = len := by simp [rows]
            have hget : ∀ i r, rows[i]? = some r → ∃ h : i < len, r = Classical.choose (row i h) := by
              intro i r hr
              have hi : i < len := by rw [← hlen]; exact (List.getElem?_eq_some_iff.1 hr).1
              refine ⟨hi, ?_⟩
              simp only [rows, List.getElem?_map, List.getElem?_range hi, Option.map_some, Option.some.injEq] at hr
              rw [← hr, dif_pos hi]
            refine holds_one (d := .l rows) ⟨⟨_, rfl, fun r hr => ?_, ?_⟩, by simp, .inr ⟨a, cap, ?_, ?_, fun i r hr => ?_⟩⟩ (fun r hr => ?_)
            · obtain ⟨i, hi⟩ := List.getElem?_of_mem hr
              obtain ⟨h, rfl⟩ := hget i r hi
              obtain ⟨_, _, h6, _⟩ := Classical.choose_spec (row i h)
              exact h6.len.1
            · have h3 : cap ≤ 9223372036854775807 := h3
              rw [hlen]; omega
            · show Value.slice (some a) len cap = .slice (some a) rows.length cap
              rw [hlen]
            · show rows.length ≤ cap
              rw [hlen]; exact h2
            · obtain ⟨h, rfl⟩ := hget i r hr
              obtain ⟨cs', h5', h6, _⟩ := Classical.choose_spec (row i h)
              exact ⟨cs', fun c hc => h5' c (by simpa using hc), h6⟩
            · obtain ⟨i, hi⟩ := List.getElem?_of_mem (show r ∈ rows from hr)
              obtain ⟨h, rfl⟩ := hget i r hi
              obtain ⟨_, _, _, h7⟩ := Classical.choose_spec (row i h)
              exact h7
        · cases h
      · cases h
    · rename_i fs hu
      split at h
      · rename_i ks' hd
        split at h
        · rename_i hb
          rw [beqN_iff] at hb
          simp only [Option.some.injEq] at h
          subst h
          obtain ⟨xs, m', rfl, _, hl, hxs, hf⟩ := DataW.trod_struct hu hx
          have := holds_fields (w := w) (cs := cs) fs.toList 0 ks' hd (by rw [hl, hb]; simp) (fun f hm ks1 hk1 => ?_)
          · simpa using this
          · obtain ⟨i, hi, rfl⟩ := List.mem_iff_getElem.1 hm
            have hi' : i < fs.size := by simpa using hi
            have e1 := hf i fs[i] (by simp [hi'])
            rw [List.getElem?_eq_getElem (by omega)] at e1
            have e2 : fs.toList[i] = fs[i] := by simp
            rw [e2] at hk1 ⊢
            exact holds_of_trod n _ ks1 hk1 m' _ _ e1
        · cases h
      · cases h
    · rename_i m0 e hu
      split at h
      · rename_i ks' hd
        split at h
        · rename_i hb
          simp only [Bool.and_eq_true, beqN_iff] at hb
          simp only [Option.some.injEq] at h
          subst h
          cases m with
          | zero => simp [DataW.trod] at hx
          | succ m' =>
            obtain ⟨hl, hi⟩ := HB.trod_array hu hx
            refine holds_rep m0 (by rw [hl, hb.2]) fun i h => ?_
            obtain ⟨y, hy⟩ := hi i h
            rw [hb.1] at hy
            exact holds_of_trod n e ks' hd m' _ y hy
        · cases h
      · cases h
    · cases h


def strOf (z : ByteArray) : List Nat := z.data.toList.map UInt8.toNat

def valOf : Value → Option V
  | .int k n => some (.int k n)
  | .bool b => some (.bool b)
  | .string z => some (.str (strOf z))
  | .slice none 0 0 => some .nils
  | .slice (some a) n cap => if n ≤ cap then some (.rslc a n cap) else none
  | _ => none

noncomputable def roOf (w : World) (a : Addr) : Option V := match w.cell? a with
  | some u => valOf u
  | none => none

theorem valOf_rv {u : Value} {v : V} (h : valOf u = some v) : one1 v = true ∧ ∀ ρ n, Rv ρ n v u := by
  unfold valOf at h
  split at h
  · cases h; exact ⟨rfl, fun _ _ => by simp only [Rv]⟩
  · cases h; exact ⟨rfl, fun _ _ => by simp only [Rv]⟩
  · cases h
    rename_i z
    refine ⟨rfl, fun _ _ => ?_⟩
    simp only [Rv]
    refine ⟨fun b hb => ?_, by rw [strOf, bytes_of]⟩
    obtain ⟨x, _, rfl⟩ := List.mem_map.1 (show b ∈ z.data.toList.map UInt8.toNat from hb)
    exact x.toNat_lt
  · cases h; exact ⟨rfl, fun _ _ => by simp only [Rv]⟩
  · split at h
    · rename_i hle
      cases h
      exact ⟨rfl, fun _ _ => by simp only [Rv]; exact ⟨hle, trivial⟩⟩
    · cases h
  · cases h

theorem roOf_ok (w : World) : RoAt (roOf w) w := by
  intro a v h
  unfold roOf at h
  split at h
  · rename_i u hu
    obtain ⟨h1, h2⟩ := valOf_rv h
    exact ⟨h1, u, hu, fun ρ n => h2 ρ n⟩
  · cases h

theorem str_bytes {s : List Nat} (h : ∀ b ∈ s, b < 256) : strOf (bytesOf s) = s := by
  simp only [strOf, bytesOf, List.map_map]
  induction s with
  | nil => rfl
  | cons b s ih =>
    have hb := h b (.head _)
    simp only [List.map_cons, Function.comp_apply, UInt8.toNat_ofNat', List.cons.injEq]
    exact ⟨Nat.mod_eq_of_lt hb, ih fun x hx => h x (.tail _ hx)⟩

mutual
theorem rdK_fz {g : Nat → Option O} {B : Nat} : ∀ (k : Kd) (d : D) (u : Value), RdK w k d u → RngK k d → ∃ v, valOf u = some v ∧ FzC (roOf w) g B k d v
  | .int k, d, u, h, _ => by
    simp only [RdK] at h
    obtain ⟨⟨n, rfl⟩, rfl⟩ := h
    exact ⟨_, rfl, by simp only [FzC]; exact ⟨⟨_, rfl⟩, trivial⟩⟩
  | .bool, d, u, h, _ => by
    simp only [RdK] at h
    obtain ⟨⟨n, rfl⟩, rfl⟩ := h
    exact ⟨_, rfl, by simp only [FzC]; exact ⟨⟨_, rfl⟩, trivial⟩⟩
  | .str, d, u, h, hr => by
    simp only [RdK] at h
    obtain ⟨⟨n, rfl⟩, rfl⟩ := h
    simp only [RngK, D.str] at hr
    refine ⟨_, rfl, ?_⟩
    simp only [FzC, D.str, str_bytes hr]
    exact ⟨⟨_, rfl⟩, trivial⟩
  | .sl ks, d, u, h, hr => by
    simp only [RdK] at h
    obtain ⟨⟨rows, rfl, hl⟩, hpos, h⟩ := h
    simp only [RngK, D.rows] at hr h
    rcases h with ⟨rfl, rfl⟩ | ⟨a, cap, rfl, hcap, hrow⟩
    · exact ⟨.nils, rfl, by simp only [FzC]; exact ⟨⟨_, rfl, hl⟩, .inl ⟨rfl, trivial⟩⟩⟩
    · refine ⟨.rslc a rows.length cap, by simp only [valOf]; rw [if_pos hcap], ?_⟩
      simp only [FzC, D.rows]
      refine ⟨⟨_, rfl, hl⟩, .inr (.inr ⟨a, cap, rfl, hpos, hcap, fun i hi => ?_⟩)⟩
      obtain ⟨cs, c1, c2⟩ := hrow i rows[i] (List.getElem?_eq_getElem hi)
      have hg := hr rows[i] (List.getElem_mem hi)
      refine FzR.of _ _ _ _ fun j k hk => ?_
      have hj : j < ks.length := (List.getElem?_eq_some_iff.1 hk).1
      obtain ⟨v, e1, e2⟩ := rdL_fz (g := g) (B := B) ks rows[i] cs c2 hg j k hk
      refine ⟨v, ?_, ?_⟩
      · simp only [roOf, Nat.zero_add, c1 j hj]
        revert e1
        cases cs[j]? with
        | none => intro e1; cases e1
        | some u => intro e1; exact e1
      · have : gt rows i (0 + j) = rows[i].getD j .nil := by simp [gt, List.getD_eq_getElem?_getD, hi]
        rw [this]; exact e2
theorem rdL_fz {g : Nat → Option O} {B : Nat} : ∀ (ks : List Kd) (l : List D) (cs : List Value), RdL w ks l cs → RngL ks l → ∀ j k, ks[j]? = some k → ∃ v, (cs[j]?).bind valOf = some v ∧ FzC (roOf w) g B k (l.getD j .nil) v
  | [], _, _, _, _, j, k, hk => by simp at hk
  | k0 :: ks, d :: l, c :: cs, h, hr, 0, k, hk => by
    simp only [RdL] at h
    simp only [RngL] at hr
    simp only [List.getElem?_cons_zero, Option.some.injEq] at hk
    subst hk
    obtain ⟨v, a, b⟩ := rdK_fz (g := g) (B := B) k0 d c h.1 hr.1
    exact ⟨v, by simpa using a, by simpa using b⟩
  | k0 :: ks, d :: l, c :: cs, h, hr, j + 1, k, hk => by
    simp only [RdL] at h
    simp only [RngL] at hr
    obtain ⟨v, a, b⟩ := rdL_fz (g := g) (B := B) ks l cs h.2 hr.2 j k (by simpa using hk)
    exact ⟨v, by simpa using a, by simpa using b⟩
  | _ :: _, [], _, h, _, _, _, _ => by simp [RdL] at h
  | _ :: _, _ :: _, [], h, _, _, _, _ => by simp [RdL] at h
end

theorem rdL_vals {g : Nat → Option O} {B : Nat} {ρ : Nm} {n : Nat} : ∀ (ks : List Kd) (l : List D) (cs : List Value), RdL w ks l cs → RngL ks l →
    ∃ x : List V, x.length = ks.length ∧ (∀ j k, ks[j]? = some k → ∃ u, x[j]? = some u ∧ FzC (roOf w) g B k (l.getD j .nil) u) ∧ RvL ρ n x cs
  | [], [], [], _, _ => ⟨[], rfl, fun j k h => by simp at h, by simp [RvL]⟩
  | k :: ks, d :: l, c :: cs, h, hr => by
    simp only [RdL] at h
    simp only [RngL] at hr
    obtain ⟨v, a, b⟩ := rdK_fz (g := g) (B := B) k d c h.1 hr.1
    obtain ⟨x, e1, e2, e3⟩ := rdL_vals (g := g) (B := B) (ρ := ρ) (n := n) ks l cs h.2 hr.2
    refine ⟨v :: x, by simp [e1], fun j k' hk => ?_, by simp only [RvL]; exact ⟨(valOf_rv a).2 ρ n, e3⟩⟩
    cases j with
    | zero =>
      simp only [List.getElem?_cons_zero, Option.some.injEq] at hk
      subst hk
      exact ⟨v, rfl, by simpa using b⟩
    | succ j => simpa using e2 j k' (by simpa using hk)
  | [], [], _ :: _, h, _ => by simp [RdL] at h
  | [], _ :: _, _, h, _ => by simp [RdL] at h
  | _ :: _, [], _, h, _ => by simp [RdL] at h
  | _ :: _, _ :: _, [], h, _ => by simp [RdL] at h

def descAll (P : Program) (n : Nat) : List TypeId → Option (List (Bool × List Kd))
  | [] => some []
  | t :: r => match desc P n t, descAll P n r with
    | some ks, some l => some ((HB.isAgg P t, ks) :: l)
    | _, _ => none

def RngAll : List (Bool × List Kd) → List (List D) → Prop
  | (_, ks) :: r, d :: ds => RngL ks d ∧ RngAll r ds
  | _, _ => True

def trueRes (_ : List (List D)) (_ _ : Nat) : D := .b true

def ArgsRd (w : World) : List (Bool × List Kd) → List (List D) → List Value → Prop
  | [], [], [] => True
  | (g, ks) :: r, d :: ds, v :: vs => (RdL w ks d v.cells.toList ∧ (g = true → v = .agg (v.cells.toList).toArray) ∧ (g = false → v.cells.toList = [v])) ∧ ArgsRd w r ds vs
  | _, _, _ => False

theorem args_fz {g : Nat → Option O} {B : Nat} {ρ : Nm} {n : Nat} : ∀ (ps : List (Bool × List Kd)) (ds : List (List D)) (vs : List Value), ArgsRd w ps ds vs → RngAll ps ds → ∃ x : List V, ArgsFz (roOf w) g B ps ds x ∧ RvL ρ n x vs
  | [], [], [], _, _ => ⟨[], trivial, by simp [RvL]⟩
  | (a, ks) :: ps, d :: ds, v :: vs, h, hr => by
    obtain ⟨⟨h1, h2, h3⟩, h4⟩ := h
    obtain ⟨x, e1, e2, e3⟩ := rdL_vals (g := g) (B := B) (ρ := ρ) (n := n) ks d _ h1 hr.1
    obtain ⟨xs, f1, f2⟩ := args_fz (g := g) (B := B) (ρ := ρ) (n := n) ps ds vs h4 hr.2
    cases a with
    | true => exact ⟨.agg x :: xs, ⟨h1.len.1, ⟨x, e1, e2, rfl⟩, f1⟩, by simp only [RvL, Rv]; exact ⟨⟨_, e3, h2 rfl⟩, f2⟩⟩
    | false =>
      rw [h3 rfl] at e3
      match x, e3 with
      | [y], e3 =>
        simp only [RvL, and_true] at e3
        exact ⟨y :: xs, ⟨h1.len.1, ⟨[y], e1, e2, y, rfl, rfl⟩, f1⟩, by simp only [RvL]; exact ⟨e3, f2⟩⟩
      | [], e3 => simp [RvL] at e3
      | _ :: _ :: _, e3 => simp [RvL] at e3
  | [], [], _ :: _, h, _ => h.elim
  | [], _ :: _, _, h, _ => h.elim
  | _ :: _, [], _, h, _ => h.elim
  | _ :: _, _ :: _, [], h, _ => h.elim

theorem shape_of {r : Reach} {n : Nat} {t : TypeId} {ks : List Kd} {v : Value} (hd : desc P n t = some ks) (h : Value.okWide P w r base t v) :
    (HB.isAgg P t = true → v = .agg (v.cells.toList).toArray) ∧ (HB.isAgg P t = false → v.cells.toList = [v]) := by
  cases n with
  | zero => simp [desc] at hd
  | succ n =>
    unfold desc at hd
    unfold HB.isAgg
    split at hd
    · rename_i hu
      obtain ⟨b, rfl⟩ := okWide_bool hu h
      rw [hu]
      exact ⟨fun h => (by cases h), fun _ => rfl⟩
    · rename_i k hu
      obtain ⟨z, rfl⟩ := okWide_int hu h
      rw [hu]
      exact ⟨fun h => (by cases h), fun _ => rfl⟩
    · rename_i hu
      obtain ⟨z, rfl⟩ := okWide_string hu h
      rw [hu]
      exact ⟨fun h => (by cases h), fun _ => rfl⟩
    · rename_i e hu
      obtain ⟨a, l, c, rfl⟩ := okWide_slice hu h
      rw [hu]
      exact ⟨fun h => (by cases h), fun _ => rfl⟩
    · rename_i fs hu
      obtain ⟨cs, rfl, _⟩ := okWide_struct hu h
      rw [hu]
      exact ⟨fun _ => by simp [Value.cells], fun h => by cases h⟩
    · rename_i m e hu
      have : ∃ cs, v = .agg cs := by
        unfold Value.okWide at h
        rw [hu] at h
        obtain ⟨cs, hc, _⟩ := h
        exact ⟨cs, hc⟩
      obtain ⟨cs, rfl⟩ := this
      rw [hu]
      exact ⟨fun _ => by simp [Value.cells], fun h => by cases h⟩
    · cases hd

theorem args_read {r : Reach} {n : Nat} : ∀ (ts : List TypeId) (params : List (Bool × List Kd)) (vs : List Value) (ds : List (DataW H)) (ps : List MemPlace), descAll P n ts = some params →
    (∀ (j : Nat) t v, ts[j]? = some t → vs[j]? = some v → Value.okWide P w r base t v) → DataW.TrodAll enc P w 0 spare held ts vs ds ps →
    ∃ dss, ArgsRd w params dss vs ∧ RngAll params dss
  | [], params, vs, ds, ps, hd, _, h => by
    simp only [descAll, Option.some.injEq] at hd
    subst hd
    obtain ⟨rfl, _, _⟩ := trodAll_nil h
    exact ⟨[], trivial, trivial⟩
  | t :: ts, params, vs, ds, ps, hd, hok, h => by
    unfold descAll at hd
    split at hd
    · rename_i ks l hks hl
      simp only [Option.some.injEq] at hd
      subst hd
      cases vs with
      | nil => simp [DataW.TrodAll] at h
      | cons v vs =>
        cases ds with
        | nil => simp [DataW.TrodAll] at h
        | cons d ds =>
          obtain ⟨p, q, ⟨m, hm⟩, h2, _⟩ := h
          obtain ⟨f, g1, g2⟩ := holds_of_trod n t ks hks m _ _ hm
          obtain ⟨dss, i1, i2⟩ := args_read ts l vs ds q hl (fun j t' v' ht hv => hok (j + 1) t' v' (by simpa using ht) (by simpa using hv)) h2
          obtain ⟨s1, s2⟩ := shape_of hks (hok 0 t v (by simp) (by simp))
          exact ⟨f :: dss, ⟨⟨g1, s1, s2⟩, i1⟩, g2, i2⟩
    · cases hd
end

section
variable {H : Type} {enc : TypeId × Value → H} {P : Program}

theorem said {fnum : FuncId} {f : Func} {s : ChangeSpec} {fresh handsOn again : Bool} {n : Nat} {params : List (Bool × List Kd)} {tb : TypeId}
    (hE : ∀ ro, CX.EnvOk (cxE ro) P) (hpure : ∀ ro, PureC0 (cxE ro) fnum ⟨params, [(false, [.bool])], false⟩ (RngAll params) trueRes) (hd : descAll P n f.params.toList = some params) (hl : laidOutB P = true)
    (hr : (f.params.toList.all fun t => P.readableRec t && decide (t < P.types.size)) = true) (hres : f.resultTypes = #[tb]) (hb : P.underlying tb = some .bool)
    (hs : ∀ ds : List (DataW H), ds.length = f.params.toList.length → s.fn H ds = ⟨[.lit (.bool true)], ds, []⟩) (hv : s.vars = []) {apart : Bool} (W : World) (base : Nat) (args : Array Value) (ds gs : List (DataW H)) (before : List MemPlace)
    (hval : ∀ (j : Nat) t v, f.params[j]? = some t → args[j]? = some v → Value.okWide P W .any base t v) (hW : DataW.Whole enc P f.params.toList s.vars apart W args.toList ds gs before) :
    Calls P fnum args W fun e W' => ∃ v, e = .returned v ∧ s.post enc P f apart fresh handsOn again W args v W' := by
  have hW' := hW
  obtain ⟨p, q, hA, hV, rfl, _, _⟩ := hW
  rw [hv] at hV
  obtain ⟨rfl, rfl⟩ := trodVars_none hV
  obtain ⟨dss, h1, h2⟩ := args_read (r := .any) (base := base) f.params.toList params args.toList ds p hd (fun j t v ht hv => hval j t v (by simpa using ht) (by simpa using hv)) hA
  have hlen := (trodAll_length hA).2
  have hfn : s.fn H (ds ++ []) = ⟨[.lit (.bool true)], ds, []⟩ := by rw [List.append_nil]; exact hs ds hlen
  obtain ⟨xs, x1, x2⟩ := args_fz (g := fun _ => none) (B := 0) (ρ := fun _ => none) (n := 0) params dss args.toList h1 h2
  obtain ⟨vs, h', nx', g', ⟨n0, hrun⟩, hresF⟩ := hpure (roOf W) dss h2 xs x1
  have hvs : vs = [.bool true] := by
    match vs, hresF with
    | [v], hresF =>
      obtain ⟨⟨x, _, e2, u, rfl, rfl⟩, _⟩ := hresF
      obtain ⟨u, e3, e4⟩ := e2 0 .bool rfl
      simp only [List.getElem?_cons_zero, Option.some.injEq] at e3
      subst e3
      simp only [FzC] at e4
      rw [e4.2]; rfl
    | [], hresF => simp [ResFz] at hresF
    | _ :: _ :: _, hresF => simp [ResFz] at hresF
  subst hvs
  have hcall := call_ro (hE (roOf W)) (w := W) (roOf_ok W) x2 (hrun n0 (Nat.le_refl _) retV)
  rw [show args.toList.toArray = args by simp] at hcall
  refine hcall.mono fun e W' h => ?_
  obtain ⟨u, ρ, m, rfl, hu, hk⟩ := h
  simp only [CX.one, Rv] at hu
  subst hu
  have hlt := hW'.lt
  simp only [List.append_nil] at hW' hlt
  refine ⟨_, rfl, CX.post_kept (pa := p) (pv := []) hW' (fun b sp hd => ?_) (fun sp hsp => ?_) (fun sp _ => ?_) (by simp) hk (ok_one hres rfl (okWide_bool_mk hb _))⟩
  · rw [hfn, hres]
    exact trodAll_mk1 (shut_bool hb _)
  · rw [hfn]
    exact HB.args_stay hl hr hA (fun x hx => HB.Kept_same hk (hlt x hx)) (fun x hx => hsp x hx)
  · rw [hfn, hv]
    rfl
end
end HX

namespace HX
open Go Go.Proofs
theorem own : ownKnob Try.prog.godebug = none := by kernel_rfl
theorem laid : laidOutB Try.prog = true := by kernel_rfl
end HX

namespace HX
open Go Go.Proofs CX

inductive Ctrs (E : CX.Env) : List Ctr → Prop
  | nil : Ctrs E []
  | cons {c : Ctr} {l : List Ctr} (h : PureC E c.f c.sg c.pre c.res) (r : Ctrs E l) : Ctrs E (c :: l)

theorem Ctrs.find {E : CX.Env} : ∀ {l : List Ctr}, Ctrs E l → ∀ {f : Nat} {sg : Sig}, sigL (sigs l) f = some sg → PureC E f sg (preOf l f) (resOf l f)
  | [], _, f, sg, h => by simp [sigL, sigs, look] at h
  | c :: l, .cons h1 h2, f, sg, h => by
    simp only [sigL, sigs, List.map_cons] at h
    rw [look_cons] at h
    split at h
    · rename_i e
      simp only [Option.some.injEq] at h
      subst e h
      have e1 : preOf (c :: l) c.f = c.pre := by funext ds; simp [preOf, ctrOf]
      have e2 : resOf (c :: l) c.f = c.res := by funext ds; simp [resOf, ctrOf]
      rw [e1, e2]; exact h1
    · rename_i e
      have e1 : preOf (c :: l) f = preOf l f := by funext ds; simp [preOf, ctrOf, e]
      have e2 : resOf (c :: l) f = resOf l f := by funext ds; simp [resOf, ctrOf, e]
      rw [e1, e2]
      exact h2.find h

theorem envL {ro : Addr → Option V} {l : List Ctr} (h : Ctrs (cxE ro) l) : EnvOk ⟨Ar.std, cxE ro, ksF, sigL (sigs l), preOf l, resOf l⟩ := hxEnv fun _ _ hs => h.find hs
end HX

namespace HX
open Go Go.Proofs CX
structure V22 (pre : Nat → List (List D) → Prop) (fn : Nat → List (List D) → Nat → Nat → D) (a0_0 : Int) (a0_1 : Int) (a0_2 : Int) (a1 : Int) (a2 : Rows) (R : Nat → Nat → D) (I0 : Int → Rows → Prop) (m0 : Int → Rows → Nat) (I1 : Int → Rows → Rows → Int → Prop) (m1 : Int → Rows → Rows → Int → Nat) : Prop where
  g0 : ((List.length ([[D.i a1]] : Rows)) + a2.length) * 8 ≤ 4294967296 ∧ ((List.length ([[D.i a1]] : Rows)) + a2.length) ≤ 4294967296
  g1 : pre 49 [[D.i a0_0, D.i a0_1, D.i a0_2], [D.l ([[D.i a1]] ++ a2)]]
  g2 : (¬ (D.int (fn 49 [[D.i a0_0, D.i a0_1, D.i a0_2], [D.l ([[D.i a1]] ++ a2)]] 0 0)) = 0) → R 0 0 = D.l []
  g3 : (¬ (D.int (fn 49 [[D.i a0_0, D.i a0_1, D.i a0_2], [D.l ([[D.i a1]] ++ a2)]] 0 0)) = 0) → R 1 0 = D.i (D.int (fn 49 [[D.i a0_0, D.i a0_1, D.i a0_2], [D.l ([[D.i a1]] ++ a2)]] 0 0))
  g4 : ((D.int (fn 49 [[D.i a0_0, D.i a0_1, D.i a0_2], [D.l ([[D.i a1]] ++ a2)]] 0 0)) = 0) → ((a2.length : Int) = 0) → R 0 0 = D.l []
  g5 : ((D.int (fn 49 [[D.i a0_0, D.i a0_1, D.i a0_2], [D.l ([[D.i a1]] ++ a2)]] 0 0)) = 0) → ((a2.length : Int) = 0) → R 1 0 = D.i 2
  g6 : ((D.int (fn 49 [[D.i a0_0, D.i a0_1, D.i a0_2], [D.l ([[D.i a1]] ++ a2)]] 0 0)) = 0) → (¬ (a2.length : Int) = 0) → -9223372036854775808 ≤ (a0_0 * a0_1) ∧ (a0_0 * a0_1) ≤ 9223372036854775807
  g7 : ((D.int (fn 49 [[D.i a0_0, D.i a0_1, D.i a0_2], [D.l ([[D.i a1]] ++ a2)]] 0 0)) = 0) → (¬ (a2.length : Int) = 0) → 0 ≤ (a0_0 * a0_1)
  g8 : ((D.int (fn 49 [[D.i a0_0, D.i a0_1, D.i a0_2], [D.l ([[D.i a1]] ++ a2)]] 0 0)) = 0) → (¬ (a2.length : Int) = 0) → (a0_0 * a0_1) ≤ (a0_0 * a0_1)
  g9 : ((D.int (fn 49 [[D.i a0_0, D.i a0_1, D.i a0_2], [D.l ([[D.i a1]] ++ a2)]] 0 0)) = 0) → (¬ (a2.length : Int) = 0) → ((a0_0 * a0_1) * (Int.ofNat 1)) ≤ 4096
  g10 : ((D.int (fn 49 [[D.i a0_0, D.i a0_1, D.i a0_2], [D.l ([[D.i a1]] ++ a2)]] 0 0)) = 0) → (¬ (a2.length : Int) = 0) → ((a0_0 * a0_1) * (Int.ofNat 8)) ≤ 140737488355328
  i0 : ((D.int (fn 49 [[D.i a0_0, D.i a0_1, D.i a0_2], [D.l ([[D.i a1]] ++ a2)]] 0 0)) = 0) → (¬ (a2.length : Int) = 0) → I0 0 (List.replicate (Int.toNat (a0_0 * a0_1)) [D.i 0])
  g12 : ∀ x0_0 x0_1, I0 x0_0 x0_1 → ((D.int (fn 49 [[D.i a0_0, D.i a0_1, D.i a0_2], [D.l ([[D.i a1]] ++ a2)]] 0 0)) = 0) → (¬ (a2.length : Int) = 0) → (x0_0 < (a2.length : Int)) → 0 ≤ x0_0
  g13 : ∀ x0_0 x0_1, I0 x0_0 x0_1 → ((D.int (fn 49 [[D.i a0_0, D.i a0_1, D.i a0_2], [D.l ([[D.i a1]] ++ a2)]] 0 0)) = 0) → (¬ (a2.length : Int) = 0) → (x0_0 < (a2.length : Int)) → x0_0 < (a2.length : Int)
  g14 : ∀ x0_0 x0_1, I0 x0_0 x0_1 → ((D.int (fn 49 [[D.i a0_0, D.i a0_1, D.i a0_2], [D.l ([[D.i a1]] ++ a2)]] 0 0)) = 0) → (¬ (a2.length : Int) = 0) → (x0_0 < (a2.length : Int)) → (((Int.toNat x0_0 : Nat) : Int)) < (a2.length : Int)
  i1 : ∀ x0_0 x0_1, I0 x0_0 x0_1 → ((D.int (fn 49 [[D.i a0_0, D.i a0_1, D.i a0_2], [D.l ([[D.i a1]] ++ a2)]] 0 0)) = 0) → (¬ (a2.length : Int) = 0) → (x0_0 < (a2.length : Int)) → I1 x0_0 x0_1 x0_1 a1
  g16 : ∀ x0_0 x0_1, I0 x0_0 x0_1 → ∀ x1_0 x1_1, I1 x0_0 x0_1 x1_0 x1_1 → ((D.int (fn 49 [[D.i a0_0, D.i a0_1, D.i a0_2], [D.l ([[D.i a1]] ++ a2)]] 0 0)) = 0) → (¬ (a2.length : Int) = 0) → (x0_0 < (a2.length : Int)) → 0 ≤ x1_1
  g17 : ∀ x0_0 x0_1, I0 x0_0 x0_1 → ∀ x1_0 x1_1, I1 x0_0 x0_1 x1_0 x1_1 → ((D.int (fn 49 [[D.i a0_0, D.i a0_1, D.i a0_2], [D.l ([[D.i a1]] ++ a2)]] 0 0)) = 0) → (¬ (a2.length : Int) = 0) → (x0_0 < (a2.length : Int)) → x1_1 < (x1_0.length : Int)
  g18 : ∀ x0_0 x0_1, I0 x0_0 x0_1 → ∀ x1_0 x1_1, I1 x0_0 x0_1 x1_0 x1_1 → ((D.int (fn 49 [[D.i a0_0, D.i a0_1, D.i a0_2], [D.l ([[D.i a1]] ++ a2)]] 0 0)) = 0) → (¬ (a2.length : Int) = 0) → (x0_0 < (a2.length : Int)) → (((Int.toNat x1_1 : Nat) : Int)) < (x1_0.length : Int)
  g20 : ∀ x0_0 x0_1, I0 x0_0 x0_1 → ∀ x1_0 x1_1, I1 x0_0 x0_1 x1_0 x1_1 → ((D.int (fn 49 [[D.i a0_0, D.i a0_1, D.i a0_2], [D.l ([[D.i a1]] ++ a2)]] 0 0)) = 0) → (¬ (a2.length : Int) = 0) → (x0_0 < (a2.length : Int)) → pre 56 [[D.i a0_0, D.i a0_1, D.i a0_2], [D.i x1_1], [D.i (D.int (gt a2 x0_0.toNat 0))]]
  g24 : ∀ x0_0 x0_1, I0 x0_0 x0_1 → ∀ x1_0 x1_1, I1 x0_0 x0_1 x1_0 x1_1 → ((D.int (fn 49 [[D.i a0_0, D.i a0_1, D.i a0_2], [D.l ([[D.i a1]] ++ a2)]] 0 0)) = 0) → (¬ (a2.length : Int) = 0) → (x0_0 < (a2.length : Int)) → (¬ x1_1 = (D.int (gt a2 x0_0.toNat 0))) → pre 56 [[D.i a0_0, D.i a0_1, D.i a0_2], [D.i x1_1], [D.i (D.int (gt a2 x0_0.toNat 0))]]
  g25 : ∀ x0_0 x0_1, I0 x0_0 x0_1 → ∀ x1_0 x1_1, I1 x0_0 x0_1 x1_0 x1_1 → ((D.int (fn 49 [[D.i a0_0, D.i a0_1, D.i a0_2], [D.l ([[D.i a1]] ++ a2)]] 0 0)) = 0) → (¬ (a2.length : Int) = 0) → (x0_0 < (a2.length : Int)) → (¬ x1_1 = (D.int (gt a2 x0_0.toNat 0))) → pre 88 [[D.i a0_0, D.i a0_1, D.i a0_2], [D.i x1_1], [D.i (D.int (fn 56 [[D.i a0_0, D.i a0_1, D.i a0_2], [D.i x1_1], [D.i (D.int (gt a2 x0_0.toNat 0))]] 0 0))]]
  n26 : ∀ x0_0 x0_1, I0 x0_0 x0_1 → ∀ x1_0 x1_1, I1 x0_0 x0_1 x1_0 x1_1 → ((D.int (fn 49 [[D.i a0_0, D.i a0_1, D.i a0_2], [D.l ([[D.i a1]] ++ a2)]] 0 0)) = 0) → (¬ (a2.length : Int) = 0) → (x0_0 < (a2.length : Int)) → (¬ x1_1 = (D.int (gt a2 x0_0.toNat 0))) → I1 x0_0 x0_1 (List.set x1_0 x1_1.toNat [D.i (Ar.std.bit BinOp.or IntKind.i64 (D.int (gt x1_0 x1_1.toNat 0)) (D.int (fn 56 [[D.i a0_0, D.i a0_1, D.i a0_2], [D.i x1_1], [D.i (D.int (gt a2 x0_0.toNat 0))]] 0 0)))]) (D.int (fn 88 [[D.i a0_0, D.i a0_1, D.i a0_2], [D.i x1_1], [D.i (D.int (fn 56 [[D.i a0_0, D.i a0_1, D.i a0_2], [D.i x1_1], [D.i (D.int (gt a2 x0_0.toNat 0))]] 0 0))]] 0 0)) ∧ m1 x0_0 x0_1 (List.set x1_0 x1_1.toNat [D.i (Ar.std.bit BinOp.or IntKind.i64 (D.int (gt x1_0 x1_1.toNat 0)) (D.int (fn 56 [[D.i a0_0, D.i a0_1, D.i a0_2], [D.i x1_1], [D.i (D.int (gt a2 x0_0.toNat 0))]] 0 0)))]) (D.int (fn 88 [[D.i a0_0, D.i a0_1, D.i a0_2], [D.i x1_1], [D.i (D.int (fn 56 [[D.i a0_0, D.i a0_1, D.i a0_2], [D.i x1_1], [D.i (D.int (gt a2 x0_0.toNat 0))]] 0 0))]] 0 0)) < m1 x0_0 x0_1 x1_0 x1_1
  g27 : ∀ x0_0 x0_1, I0 x0_0 x0_1 → ∀ x1_0 x1_1, I1 x0_0 x0_1 x1_0 x1_1 → ((D.int (fn 49 [[D.i a0_0, D.i a0_1, D.i a0_2], [D.l ([[D.i a1]] ++ a2)]] 0 0)) = 0) → (¬ (a2.length : Int) = 0) → (x0_0 < (a2.length : Int)) → (x1_1 = (D.int (gt a2 x0_0.toNat 0))) → -9223372036854775808 ≤ (x0_0 + 1) ∧ (x0_0 + 1) ≤ 9223372036854775807
  n28 : ∀ x0_0 x0_1, I0 x0_0 x0_1 → ∀ x1_0 x1_1, I1 x0_0 x0_1 x1_0 x1_1 → ((D.int (fn 49 [[D.i a0_0, D.i a0_1, D.i a0_2], [D.l ([[D.i a1]] ++ a2)]] 0 0)) = 0) → (¬ (a2.length : Int) = 0) → (x0_0 < (a2.length : Int)) → (x1_1 = (D.int (gt a2 x0_0.toNat 0))) → I0 (x0_0 + 1) (List.set x1_0 x1_1.toNat [D.i (Ar.std.bit BinOp.or IntKind.i64 (D.int (gt x1_0 x1_1.toNat 0)) (D.int (fn 56 [[D.i a0_0, D.i a0_1, D.i a0_2], [D.i x1_1], [D.i (D.int (gt a2 x0_0.toNat 0))]] 0 0)))]) ∧ m0 (x0_0 + 1) (List.set x1_0 x1_1.toNat [D.i (Ar.std.bit BinOp.or IntKind.i64 (D.int (gt x1_0 x1_1.toNat 0)) (D.int (fn 56 [[D.i a0_0, D.i a0_1, D.i a0_2], [D.i x1_1], [D.i (D.int (gt a2 x0_0.toNat 0))]] 0 0)))]) < m0 x0_0 x0_1
  g29 : ∀ x0_0 x0_1, I0 x0_0 x0_1 → ((D.int (fn 49 [[D.i a0_0, D.i a0_1, D.i a0_2], [D.l ([[D.i a1]] ++ a2)]] 0 0)) = 0) → (¬ (a2.length : Int) = 0) → (¬ x0_0 < (a2.length : Int)) → R 0 0 = D.l x0_1
  g30 : ∀ x0_0 x0_1, I0 x0_0 x0_1 → ((D.int (fn 49 [[D.i a0_0, D.i a0_1, D.i a0_2], [D.l ([[D.i a1]] ++ a2)]] 0 0)) = 0) → (¬ (a2.length : Int) = 0) → (¬ x0_0 < (a2.length : Int)) → R 1 0 = D.i 0
end HX

namespace HX
open Go Go.Proofs CX
structure V23 (pre : Nat → List (List D) → Prop) (fn : Nat → List (List D) → Nat → Nat → D) (a0_0 : Int) (a0_1 : Int) (a0_2 : Int) (a1 : Int) (a2 : Rows) (R : Nat → Nat → D) (I0 : Int → Prop) (m0 : Int → Nat) (I1 : Int → Int → Rows → Prop) (m1 : Int → Int → Rows → Nat) (I2 : Int → Int → Rows → Int → Rows → Prop) (m2 : Int → Int → Rows → Int → Rows → Nat) : Prop where
  g0 : pre 53 [[D.i a0_0, D.i a0_1, D.i a0_2], [D.i a1], [D.i a1]]
  g1 : (¬ (D.int (fn 53 [[D.i a0_0, D.i a0_1, D.i a0_2], [D.i a1], [D.i a1]] 0 0)) = 0) → R 0 0 = D.l []
  g2 : (¬ (D.int (fn 53 [[D.i a0_0, D.i a0_1, D.i a0_2], [D.i a1], [D.i a1]] 0 0)) = 0) → R 1 0 = D.i (D.int (fn 53 [[D.i a0_0, D.i a0_1, D.i a0_2], [D.i a1], [D.i a1]] 0 0))
  i0 : ((D.int (fn 53 [[D.i a0_0, D.i a0_1, D.i a0_2], [D.i a1], [D.i a1]] 0 0)) = 0) → I0 0
  g4 : ∀ x0_0, I0 x0_0 → ((D.int (fn 53 [[D.i a0_0, D.i a0_1, D.i a0_2], [D.i a1], [D.i a1]] 0 0)) = 0) → (x0_0 < (a2.length : Int)) → 0 ≤ x0_0
  g5 : ∀ x0_0, I0 x0_0 → ((D.int (fn 53 [[D.i a0_0, D.i a0_1, D.i a0_2], [D.i a1], [D.i a1]] 0 0)) = 0) → (x0_0 < (a2.length : Int)) → x0_0 < (a2.length : Int)
  g6 : ∀ x0_0, I0 x0_0 → ((D.int (fn 53 [[D.i a0_0, D.i a0_1, D.i a0_2], [D.i a1], [D.i a1]] 0 0)) = 0) → (x0_0 < (a2.length : Int)) → (((Int.toNat x0_0 : Nat) : Int)) < (a2.length : Int)
  g7 : ∀ x0_0, I0 x0_0 → ((D.int (fn 53 [[D.i a0_0, D.i a0_1, D.i a0_2], [D.i a1], [D.i a1]] 0 0)) = 0) → (x0_0 < (a2.length : Int)) → (0 ≤ (D.int (gt a2 x0_0.toNat 0))) → -9223372036854775808 ≤ (a0_0 * a0_1) ∧ (a0_0 * a0_1) ≤ 9223372036854775807
  g8 : ∀ x0_0, I0 x0_0 → ((D.int (fn 53 [[D.i a0_0, D.i a0_1, D.i a0_2], [D.i a1], [D.i a1]] 0 0)) = 0) → (x0_0 < (a2.length : Int)) → (0 ≤ (D.int (gt a2 x0_0.toNat 0))) → (¬ (D.int (gt a2 x0_0.toNat 0)) < (a0_0 * a0_1)) → R 0 0 = D.l []
  g9 : ∀ x0_0, I0 x0_0 → ((D.int (fn 53 [[D.i a0_0, D.i a0_1, D.i a0_2], [D.i a1], [D.i a1]] 0 0)) = 0) → (x0_0 < (a2.length : Int)) → (0 ≤ (D.int (gt a2 x0_0.toNat 0))) → (¬ (D.int (gt a2 x0_0.toNat 0)) < (a0_0 * a0_1)) → R 1 0 = D.i 4
  g10 : ∀ x0_0, I0 x0_0 → ((D.int (fn 53 [[D.i a0_0, D.i a0_1, D.i a0_2], [D.i a1], [D.i a1]] 0 0)) = 0) → (x0_0 < (a2.length : Int)) → (0 ≤ (D.int (gt a2 x0_0.toNat 0))) → ((D.int (gt a2 x0_0.toNat 0)) < (a0_0 * a0_1)) → -9223372036854775808 ≤ (x0_0 + 1) ∧ (x0_0 + 1) ≤ 9223372036854775807
  n11 : ∀ x0_0, I0 x0_0 → ((D.int (fn 53 [[D.i a0_0, D.i a0_1, D.i a0_2], [D.i a1], [D.i a1]] 0 0)) = 0) → (x0_0 < (a2.length : Int)) → (0 ≤ (D.int (gt a2 x0_0.toNat 0))) → ((D.int (gt a2 x0_0.toNat 0)) < (a0_0 * a0_1)) → I0 (x0_0 + 1) ∧ m0 (x0_0 + 1) < m0 x0_0
  g12 : ∀ x0_0, I0 x0_0 → ((D.int (fn 53 [[D.i a0_0, D.i a0_1, D.i a0_2], [D.i a1], [D.i a1]] 0 0)) = 0) → (x0_0 < (a2.length : Int)) → (¬ 0 ≤ (D.int (gt a2 x0_0.toNat 0))) → R 0 0 = D.l []
  g13 : ∀ x0_0, I0 x0_0 → ((D.int (fn 53 [[D.i a0_0, D.i a0_1, D.i a0_2], [D.i a1], [D.i a1]] 0 0)) = 0) → (x0_0 < (a2.length : Int)) → (¬ 0 ≤ (D.int (gt a2 x0_0.toNat 0))) → R 1 0 = D.i 4
  g14 : ∀ x0_0, I0 x0_0 → ((D.int (fn 53 [[D.i a0_0, D.i a0_1, D.i a0_2], [D.i a1], [D.i a1]] 0 0)) = 0) → (¬ x0_0 < (a2.length : Int)) → ((a2.length : Int) = 0) → R 0 0 = D.l []
  g15 : ∀ x0_0, I0 x0_0 → ((D.int (fn 53 [[D.i a0_0, D.i a0_1, D.i a0_2], [D.i a1], [D.i a1]] 0 0)) = 0) → (¬ x0_0 < (a2.length : Int)) → ((a2.length : Int) = 0) → R 1 0 = D.i 2
  g16 : ∀ x0_0, I0 x0_0 → ((D.int (fn 53 [[D.i a0_0, D.i a0_1, D.i a0_2], [D.i a1], [D.i a1]] 0 0)) = 0) → (¬ x0_0 < (a2.length : Int)) → (¬ (a2.length : Int) = 0) → -9223372036854775808 ≤ (a0_0 * a0_1) ∧ (a0_0 * a0_1) ≤ 9223372036854775807
  g17 : ∀ x0_0, I0 x0_0 → ((D.int (fn 53 [[D.i a0_0, D.i a0_1, D.i a0_2], [D.i a1], [D.i a1]] 0 0)) = 0) → (¬ x0_0 < (a2.length : Int)) → (¬ (a2.length : Int) = 0) → 0 ≤ (a0_0 * a0_1)
  g18 : ∀ x0_0, I0 x0_0 → ((D.int (fn 53 [[D.i a0_0, D.i a0_1, D.i a0_2], [D.i a1], [D.i a1]] 0 0)) = 0) → (¬ x0_0 < (a2.length : Int)) → (¬ (a2.length : Int) = 0) → (a0_0 * a0_1) ≤ (a0_0 * a0_1)
  g19 : ∀ x0_0, I0 x0_0 → ((D.int (fn 53 [[D.i a0_0, D.i a0_1, D.i a0_2], [D.i a1], [D.i a1]] 0 0)) = 0) → (¬ x0_0 < (a2.length : Int)) → (¬ (a2.length : Int) = 0) → ((a0_0 * a0_1) * (Int.ofNat 1)) ≤ 4096
  g20 : ∀ x0_0, I0 x0_0 → ((D.int (fn 53 [[D.i a0_0, D.i a0_1, D.i a0_2], [D.i a1], [D.i a1]] 0 0)) = 0) → (¬ x0_0 < (a2.length : Int)) → (¬ (a2.length : Int) = 0) → ((a0_0 * a0_1) * (Int.ofNat 8)) ≤ 140737488355328
  i1 : ∀ x0_0, I0 x0_0 → ((D.int (fn 53 [[D.i a0_0, D.i a0_1, D.i a0_2], [D.i a1], [D.i a1]] 0 0)) = 0) → (¬ x0_0 < (a2.length : Int)) → (¬ (a2.length : Int) = 0) → I1 x0_0 0 (List.replicate (Int.toNat (a0_0 * a0_1)) [D.i 0])
  g22 : ∀ x0_0, I0 x0_0 → ∀ x1_0 x1_1, I1 x0_0 x1_0 x1_1 → ((D.int (fn 53 [[D.i a0_0, D.i a0_1, D.i a0_2], [D.i a1], [D.i a1]] 0 0)) = 0) → (¬ x0_0 < (a2.length : Int)) → (¬ (a2.length : Int) = 0) → (x1_0 < (a2.length : Int)) → 0 ≤ x1_0
  g23 : ∀ x0_0, I0 x0_0 → ∀ x1_0 x1_1, I1 x0_0 x1_0 x1_1 → ((D.int (fn 53 [[D.i a0_0, D.i a0_1, D.i a0_2], [D.i a1], [D.i a1]] 0 0)) = 0) → (¬ x0_0 < (a2.length : Int)) → (¬ (a2.length : Int) = 0) → (x1_0 < (a2.length : Int)) → x1_0 < (a2.length : Int)
  g24 : ∀ x0_0, I0 x0_0 → ∀ x1_0 x1_1, I1 x0_0 x1_0 x1_1 → ((D.int (fn 53 [[D.i a0_0, D.i a0_1, D.i a0_2], [D.i a1], [D.i a1]] 0 0)) = 0) → (¬ x0_0 < (a2.length : Int)) → (¬ (a2.length : Int) = 0) → (x1_0 < (a2.length : Int)) → (((Int.toNat x1_0 : Nat) : Int)) < (a2.length : Int)
  g25 : ∀ x0_0, I0 x0_0 → ∀ x1_0 x1_1, I1 x0_0 x1_0 x1_1 → ((D.int (fn 53 [[D.i a0_0, D.i a0_1, D.i a0_2], [D.i a1], [D.i a1]] 0 0)) = 0) → (¬ x0_0 < (a2.length : Int)) → (¬ (a2.length : Int) = 0) → (x1_0 < (a2.length : Int)) → pre 20 [[D.i a0_0, D.i a0_1, D.i a0_2], [D.i a1], [D.i (D.int (gt a2 x1_0.toNat 0))]]
  i2 : ∀ x0_0, I0 x0_0 → ∀ x1_0 x1_1, I1 x0_0 x1_0 x1_1 → ((D.int (fn 53 [[D.i a0_0, D.i a0_1, D.i a0_2], [D.i a1], [D.i a1]] 0 0)) = 0) → (¬ x0_0 < (a2.length : Int)) → (¬ (a2.length : Int) = 0) → (x1_0 < (a2.length : Int)) → I2 x0_0 x1_0 x1_1 0 x1_1
  g27 : ∀ x0_0, I0 x0_0 → ∀ x1_0 x1_1, I1 x0_0 x1_0 x1_1 → ∀ x2_0 x2_1, I2 x0_0 x1_0 x1_1 x2_0 x2_1 → ((D.int (fn 53 [[D.i a0_0, D.i a0_1, D.i a0_2], [D.i a1], [D.i a1]] 0 0)) = 0) → (¬ x0_0 < (a2.length : Int)) → (¬ (a2.length : Int) = 0) → (x1_0 < (a2.length : Int)) → (x2_0 < ((((D.rows (fn 20 [[D.i a0_0, D.i a0_1, D.i a0_2], [D.i a1], [D.i (D.int (gt a2 x1_0.toNat 0))]] 0 0))).length : Int))) → 0 ≤ x2_0
  g28 : ∀ x0_0, I0 x0_0 → ∀ x1_0 x1_1, I1 x0_0 x1_0 x1_1 → ∀ x2_0 x2_1, I2 x0_0 x1_0 x1_1 x2_0 x2_1 → ((D.int (fn 53 [[D.i a0_0, D.i a0_1, D.i a0_2], [D.i a1], [D.i a1]] 0 0)) = 0) → (¬ x0_0 < (a2.length : Int)) → (¬ (a2.length : Int) = 0) → (x1_0 < (a2.length : Int)) → (x2_0 < ((((D.rows (fn 20 [[D.i a0_0, D.i a0_1, D.i a0_2], [D.i a1], [D.i (D.int (gt a2 x1_0.toNat 0))]] 0 0))).length : Int))) → x2_0 < ((((D.rows (fn 20 [[D.i a0_0, D.i a0_1, D.i a0_2], [D.i a1], [D.i (D.int (gt a2 x1_0.toNat 0))]] 0 0))).length : Int))
  g29 : ∀ x0_0, I0 x0_0 → ∀ x1_0 x1_1, I1 x0_0 x1_0 x1_1 → ∀ x2_0 x2_1, I2 x0_0 x1_0 x1_1 x2_0 x2_1 → ((D.int (fn 53 [[D.i a0_0, D.i a0_1, D.i a0_2], [D.i a1], [D.i a1]] 0 0)) = 0) → (¬ x0_0 < (a2.length : Int)) → (¬ (a2.length : Int) = 0) → (x1_0 < (a2.length : Int)) → (x2_0 < ((((D.rows (fn 20 [[D.i a0_0, D.i a0_1, D.i a0_2], [D.i a1], [D.i (D.int (gt a2 x1_0.toNat 0))]] 0 0))).length : Int))) → (((Int.toNat x2_0 : Nat) : Int)) < ((((D.rows (fn 20 [[D.i a0_0, D.i a0_1, D.i a0_2], [D.i a1], [D.i (D.int (gt a2 x1_0.toNat 0))]] 0 0))).length : Int))
  g33 : ∀ x0_0, I0 x0_0 → ∀ x1_0 x1_1, I1 x0_0 x1_0 x1_1 → ∀ x2_0 x2_1, I2 x0_0 x1_0 x1_1 x2_0 x2_1 → ((D.int (fn 53 [[D.i a0_0, D.i a0_1, D.i a0_2], [D.i a1], [D.i a1]] 0 0)) = 0) → (¬ x0_0 < (a2.length : Int)) → (¬ (a2.length : Int) = 0) → (x1_0 < (a2.length : Int)) → (x2_0 < ((((D.rows (fn 20 [[D.i a0_0, D.i a0_1, D.i a0_2], [D.i a1], [D.i (D.int (gt a2 x1_0.toNat 0))]] 0 0))).length : Int))) → 0 ≤ (D.int (gt (D.rows (fn 20 [[D.i a0_0, D.i a0_1, D.i a0_2], [D.i a1], [D.i (D.int (gt a2 x1_0.toNat 0))]] 0 0)) x2_0.toNat 0))
  g34 : ∀ x0_0, I0 x0_0 → ∀ x1_0 x1_1, I1 x0_0 x1_0 x1_1 → ∀ x2_0 x2_1, I2 x0_0 x1_0 x1_1 x2_0 x2_1 → ((D.int (fn 53 [[D.i a0_0, D.i a0_1, D.i a0_2], [D.i a1], [D.i a1]] 0 0)) = 0) → (¬ x0_0 < (a2.length : Int)) → (¬ (a2.length : Int) = 0) → (x1_0 < (a2.length : Int)) → (x2_0 < ((((D.rows (fn 20 [[D.i a0_0, D.i a0_1, D.i a0_2], [D.i a1], [D.i (D.int (gt a2 x1_0.toNat 0))]] 0 0))).length : Int))) → (D.int (gt (D.rows (fn 20 [[D.i a0_0, D.i a0_1, D.i a0_2], [D.i a1], [D.i (D.int (gt a2 x1_0.toNat 0))]] 0 0)) x2_0.toNat 0)) < (x2_1.length : Int)
  g35 : ∀ x0_0, I0 x0_0 → ∀ x1_0 x1_1, I1 x0_0 x1_0 x1_1 → ∀ x2_0 x2_1, I2 x0_0 x1_0 x1_1 x2_0 x2_1 → ((D.int (fn 53 [[D.i a0_0, D.i a0_1, D.i a0_2], [D.i a1], [D.i a1]] 0 0)) = 0) → (¬ x0_0 < (a2.length : Int)) → (¬ (a2.length : Int) = 0) → (x1_0 < (a2.length : Int)) → (x2_0 < ((((D.rows (fn 20 [[D.i a0_0, D.i a0_1, D.i a0_2], [D.i a1], [D.i (D.int (gt a2 x1_0.toNat 0))]] 0 0))).length : Int))) → (((Int.toNat (D.int (gt (D.rows (fn 20 [[D.i a0_0, D.i a0_1, D.i a0_2], [D.i a1], [D.i (D.int (gt a2 x1_0.toNat 0))]] 0 0)) x2_0.toNat 0)) : Nat) : Int)) < (x2_1.length : Int)
  g40 : ∀ x0_0, I0 x0_0 → ∀ x1_0 x1_1, I1 x0_0 x1_0 x1_1 → ∀ x2_0 x2_1, I2 x0_0 x1_0 x1_1 x2_0 x2_1 → ((D.int (fn 53 [[D.i a0_0, D.i a0_1, D.i a0_2], [D.i a1], [D.i a1]] 0 0)) = 0) → (¬ x0_0 < (a2.length : Int)) → (¬ (a2.length : Int) = 0) → (x1_0 < (a2.length : Int)) → (x2_0 < ((((D.rows (fn 20 [[D.i a0_0, D.i a0_1, D.i a0_2], [D.i a1], [D.i (D.int (gt a2 x1_0.toNat 0))]] 0 0))).length : Int))) → 0 ≤ x1_0
  g41 : ∀ x0_0, I0 x0_0 → ∀ x1_0 x1_1, I1 x0_0 x1_0 x1_1 → ∀ x2_0 x2_1, I2 x0_0 x1_0 x1_1 x2_0 x2_1 → ((D.int (fn 53 [[D.i a0_0, D.i a0_1, D.i a0_2], [D.i a1], [D.i a1]] 0 0)) = 0) → (¬ x0_0 < (a2.length : Int)) → (¬ (a2.length : Int) = 0) → (x1_0 < (a2.length : Int)) → (x2_0 < ((((D.rows (fn 20 [[D.i a0_0, D.i a0_1, D.i a0_2], [D.i a1], [D.i (D.int (gt a2 x1_0.toNat 0))]] 0 0))).length : Int))) → x1_0 < (a2.length : Int)
  g42 : ∀ x0_0, I0 x0_0 → ∀ x1_0 x1_1, I1 x0_0 x1_0 x1_1 → ∀ x2_0 x2_1, I2 x0_0 x1_0 x1_1 x2_0 x2_1 → ((D.int (fn 53 [[D.i a0_0, D.i a0_1, D.i a0_2], [D.i a1], [D.i a1]] 0 0)) = 0) → (¬ x0_0 < (a2.length : Int)) → (¬ (a2.length : Int) = 0) → (x1_0 < (a2.length : Int)) → (x2_0 < ((((D.rows (fn 20 [[D.i a0_0, D.i a0_1, D.i a0_2], [D.i a1], [D.i (D.int (gt a2 x1_0.toNat 0))]] 0 0))).length : Int))) → (((Int.toNat x1_0 : Nat) : Int)) < (a2.length : Int)
  g43 : ∀ x0_0, I0 x0_0 → ∀ x1_0 x1_1, I1 x0_0 x1_0 x1_1 → ∀ x2_0 x2_1, I2 x0_0 x1_0 x1_1 x2_0 x2_1 → ((D.int (fn 53 [[D.i a0_0, D.i a0_1, D.i a0_2], [D.i a1], [D.i a1]] 0 0)) = 0) → (¬ x0_0 < (a2.length : Int)) → (¬ (a2.length : Int) = 0) → (x1_0 < (a2.length : Int)) → (x2_0 < ((((D.rows (fn 20 [[D.i a0_0, D.i a0_1, D.i a0_2], [D.i a1], [D.i (D.int (gt a2 x1_0.toNat 0))]] 0 0))).length : Int))) → pre 55 [[D.i a0_0, D.i a0_1, D.i a0_2], [D.i (D.int (gt (D.rows (fn 20 [[D.i a0_0, D.i a0_1, D.i a0_2], [D.i a1], [D.i (D.int (gt a2 x1_0.toNat 0))]] 0 0)) x2_0.toNat 0))], [D.i (D.int (gt a2 x1_0.toNat 0))]]
  g47 : ∀ x0_0, I0 x0_0 → ∀ x1_0 x1_1, I1 x0_0 x1_0 x1_1 → ∀ x2_0 x2_1, I2 x0_0 x1_0 x1_1 x2_0 x2_1 → ((D.int (fn 53 [[D.i a0_0, D.i a0_1, D.i a0_2], [D.i a1], [D.i a1]] 0 0)) = 0) → (¬ x0_0 < (a2.length : Int)) → (¬ (a2.length : Int) = 0) → (x1_0 < (a2.length : Int)) → (x2_0 < ((((D.rows (fn 20 [[D.i a0_0, D.i a0_1, D.i a0_2], [D.i a1], [D.i (D.int (gt a2 x1_0.toNat 0))]] 0 0))).length : Int))) → -9223372036854775808 ≤ (x2_0 + 1) ∧ (x2_0 + 1) ≤ 9223372036854775807
  n48 : ∀ x0_0, I0 x0_0 → ∀ x1_0 x1_1, I1 x0_0 x1_0 x1_1 → ∀ x2_0 x2_1, I2 x0_0 x1_0 x1_1 x2_0 x2_1 → ((D.int (fn 53 [[D.i a0_0, D.i a0_1, D.i a0_2], [D.i a1], [D.i a1]] 0 0)) = 0) → (¬ x0_0 < (a2.length : Int)) → (¬ (a2.length : Int) = 0) → (x1_0 < (a2.length : Int)) → (x2_0 < ((((D.rows (fn 20 [[D.i a0_0, D.i a0_1, D.i a0_2], [D.i a1], [D.i (D.int (gt a2 x1_0.toNat 0))]] 0 0))).length : Int))) → I2 x0_0 x1_0 x1_1 (x2_0 + 1) (List.set x2_1 (Int.toNat (D.int (gt (D.rows (fn 20 [[D.i a0_0, D.i a0_1, D.i a0_2], [D.i a1], [D.i (D.int (gt a2 x1_0.toNat 0))]] 0 0)) x2_0.toNat 0))) [D.i (Ar.std.bit BinOp.or IntKind.i64 (D.int (gt x2_1 (Int.toNat (D.int (gt (D.rows (fn 20 [[D.i a0_0, D.i a0_1, D.i a0_2], [D.i a1], [D.i (D.int (gt a2 x1_0.toNat 0))]] 0 0)) x2_0.toNat 0))) 0)) (D.int (fn 55 [[D.i a0_0, D.i a0_1, D.i a0_2], [D.i (D.int (gt (D.rows (fn 20 [[D.i a0_0, D.i a0_1, D.i a0_2], [D.i a1], [D.i (D.int (gt a2 x1_0.toNat 0))]] 0 0)) x2_0.toNat 0))], [D.i (D.int (gt a2 x1_0.toNat 0))]] 0 0)))]) ∧ m2 x0_0 x1_0 x1_1 (x2_0 + 1) (List.set x2_1 (Int.toNat (D.int (gt (D.rows (fn 20 [[D.i a0_0, D.i a0_1, D.i a0_2], [D.i a1], [D.i (D.int (gt a2 x1_0.toNat 0))]] 0 0)) x2_0.toNat 0))) [D.i (Ar.std.bit BinOp.or IntKind.i64 (D.int (gt x2_1 (Int.toNat (D.int (gt (D.rows (fn 20 [[D.i a0_0, D.i a0_1, D.i a0_2], [D.i a1], [D.i (D.int (gt a2 x1_0.toNat 0))]] 0 0)) x2_0.toNat 0))) 0)) (D.int (fn 55 [[D.i a0_0, D.i a0_1, D.i a0_2], [D.i (D.int (gt (D.rows (fn 20 [[D.i a0_0, D.i a0_1, D.i a0_2], [D.i a1], [D.i (D.int (gt a2 x1_0.toNat 0))]] 0 0)) x2_0.toNat 0))], [D.i (D.int (gt a2 x1_0.toNat 0))]] 0 0)))]) < m2 x0_0 x1_0 x1_1 x2_0 x2_1
  g49 : ∀ x0_0, I0 x0_0 → ∀ x1_0 x1_1, I1 x0_0 x1_0 x1_1 → ∀ x2_0 x2_1, I2 x0_0 x1_0 x1_1 x2_0 x2_1 → ((D.int (fn 53 [[D.i a0_0, D.i a0_1, D.i a0_2], [D.i a1], [D.i a1]] 0 0)) = 0) → (¬ x0_0 < (a2.length : Int)) → (¬ (a2.length : Int) = 0) → (x1_0 < (a2.length : Int)) → (¬ x2_0 < ((((D.rows (fn 20 [[D.i a0_0, D.i a0_1, D.i a0_2], [D.i a1], [D.i (D.int (gt a2 x1_0.toNat 0))]] 0 0))).length : Int))) → -9223372036854775808 ≤ (x1_0 + 1) ∧ (x1_0 + 1) ≤ 9223372036854775807
  n50 : ∀ x0_0, I0 x0_0 → ∀ x1_0 x1_1, I1 x0_0 x1_0 x1_1 → ∀ x2_0 x2_1, I2 x0_0 x1_0 x1_1 x2_0 x2_1 → ((D.int (fn 53 [[D.i a0_0, D.i a0_1, D.i a0_2], [D.i a1], [D.i a1]] 0 0)) = 0) → (¬ x0_0 < (a2.length : Int)) → (¬ (a2.length : Int) = 0) → (x1_0 < (a2.length : Int)) → (¬ x2_0 < ((((D.rows (fn 20 [[D.i a0_0, D.i a0_1, D.i a0_2], [D.i a1], [D.i (D.int (gt a2 x1_0.toNat 0))]] 0 0))).length : Int))) → I1 x0_0 (x1_0 + 1) x2_1 ∧ m1 x0_0 (x1_0 + 1) x2_1 < m1 x0_0 x1_0 x1_1
  g51 : ∀ x0_0, I0 x0_0 → ∀ x1_0 x1_1, I1 x0_0 x1_0 x1_1 → ((D.int (fn 53 [[D.i a0_0, D.i a0_1, D.i a0_2], [D.i a1], [D.i a1]] 0 0)) = 0) → (¬ x0_0 < (a2.length : Int)) → (¬ (a2.length : Int) = 0) → (¬ x1_0 < (a2.length : Int)) → R 0 0 = D.l x1_1
  g52 : ∀ x0_0, I0 x0_0 → ∀ x1_0 x1_1, I1 x0_0 x1_0 x1_1 → ((D.int (fn 53 [[D.i a0_0, D.i a0_1, D.i a0_2], [D.i a1], [D.i a1]] 0 0)) = 0) → (¬ x0_0 < (a2.length : Int)) → (¬ (a2.length : Int) = 0) → (¬ x1_0 < (a2.length : Int)) → R 1 0 = D.i 0
end HX

namespace HX
open Go Go.Proofs CX
structure V19 (pre : Nat → List (List D) → Prop) (fn : Nat → List (List D) → Nat → Nat → D) (a0_0 : Int) (a0_1 : Int) (a0_2 : Int) (a1 : Int) (a2 : Int) (R : Nat → Nat → D) (I0 : Rows → Int → Prop) (m0 : Rows → Int → Nat) : Prop where
  g0 : pre 49 [[D.i a0_0, D.i a0_1, D.i a0_2], [D.l [[D.i a1], [D.i a2]]]]
  g1 : (¬ (D.int (fn 49 [[D.i a0_0, D.i a0_1, D.i a0_2], [D.l [[D.i a1], [D.i a2]]]] 0 0)) = 0) → R 0 0 = D.l []
  g2 : (¬ (D.int (fn 49 [[D.i a0_0, D.i a0_1, D.i a0_2], [D.l [[D.i a1], [D.i a2]]]] 0 0)) = 0) → R 1 0 = D.i (D.int (fn 49 [[D.i a0_0, D.i a0_1, D.i a0_2], [D.l [[D.i a1], [D.i a2]]]] 0 0))
  i0 : ((D.int (fn 49 [[D.i a0_0, D.i a0_1, D.i a0_2], [D.l [[D.i a1], [D.i a2]]]] 0 0)) = 0) → I0 [] a1
  g4 : ∀ x0_0 x0_1, I0 x0_0 x0_1 → ((D.int (fn 49 [[D.i a0_0, D.i a0_1, D.i a0_2], [D.l [[D.i a1], [D.i a2]]]] 0 0)) = 0) → (x0_0.length + (List.length ([[D.i x0_1]] : Rows))) * 8 ≤ 4294967296 ∧ (x0_0.length + (List.length ([[D.i x0_1]] : Rows))) ≤ 4294967296
  g5 : ∀ x0_0 x0_1, I0 x0_0 x0_1 → ((D.int (fn 49 [[D.i a0_0, D.i a0_1, D.i a0_2], [D.l [[D.i a1], [D.i a2]]]] 0 0)) = 0) → (¬ x0_1 = a2) → pre 56 [[D.i a0_0, D.i a0_1, D.i a0_2], [D.i x0_1], [D.i a2]]
  g6 : ∀ x0_0 x0_1, I0 x0_0 x0_1 → ((D.int (fn 49 [[D.i a0_0, D.i a0_1, D.i a0_2], [D.l [[D.i a1], [D.i a2]]]] 0 0)) = 0) → (¬ x0_1 = a2) → pre 88 [[D.i a0_0, D.i a0_1, D.i a0_2], [D.i x0_1], [D.i (D.int (fn 56 [[D.i a0_0, D.i a0_1, D.i a0_2], [D.i x0_1], [D.i a2]] 0 0))]]
  n7 : ∀ x0_0 x0_1, I0 x0_0 x0_1 → ((D.int (fn 49 [[D.i a0_0, D.i a0_1, D.i a0_2], [D.l [[D.i a1], [D.i a2]]]] 0 0)) = 0) → (¬ x0_1 = a2) → I0 (x0_0 ++ [[D.i x0_1]]) (D.int (fn 88 [[D.i a0_0, D.i a0_1, D.i a0_2], [D.i x0_1], [D.i (D.int (fn 56 [[D.i a0_0, D.i a0_1, D.i a0_2], [D.i x0_1], [D.i a2]] 0 0))]] 0 0)) ∧ m0 (x0_0 ++ [[D.i x0_1]]) (D.int (fn 88 [[D.i a0_0, D.i a0_1, D.i a0_2], [D.i x0_1], [D.i (D.int (fn 56 [[D.i a0_0, D.i a0_1, D.i a0_2], [D.i x0_1], [D.i a2]] 0 0))]] 0 0)) < m0 x0_0 x0_1
  g8 : ∀ x0_0 x0_1, I0 x0_0 x0_1 → ((D.int (fn 49 [[D.i a0_0, D.i a0_1, D.i a0_2], [D.l [[D.i a1], [D.i a2]]]] 0 0)) = 0) → (x0_1 = a2) → R 0 0 = D.l (x0_0 ++ [[D.i x0_1]])
  g9 : ∀ x0_0 x0_1, I0 x0_0 x0_1 → ((D.int (fn 49 [[D.i a0_0, D.i a0_1, D.i a0_2], [D.l [[D.i a1], [D.i a2]]]] 0 0)) = 0) → (x0_1 = a2) → R 1 0 = D.i 0
end HX

namespace HX
open Go Go.Proofs CX
structure V49 (pre : Nat → List (List D) → Prop) (fn : Nat → List (List D) → Nat → Nat → D) (a0_0 : Int) (a0_1 : Int) (a0_2 : Int) (a1 : Rows) (R : Nat → Nat → D) (I0 : Int → Int → Prop) (m0 : Int → Int → Nat) : Prop where
  g0 : pre 17 [[D.i a0_0, D.i a0_1, D.i a0_2]]
  g1 : (¬ (D.int (fn 17 [[D.i a0_0, D.i a0_1, D.i a0_2]] 0 0)) = 0) → R 0 0 = D.i (D.int (fn 17 [[D.i a0_0, D.i a0_1, D.i a0_2]] 0 0))
  i0 : ((D.int (fn 17 [[D.i a0_0, D.i a0_1, D.i a0_2]] 0 0)) = 0) → I0 0 0
  g3 : ∀ x0_0 x0_1, I0 x0_0 x0_1 → ((D.int (fn 17 [[D.i a0_0, D.i a0_1, D.i a0_2]] 0 0)) = 0) → (x0_1 < (a1.length : Int)) → 0 ≤ x0_1
  g4 : ∀ x0_0 x0_1, I0 x0_0 x0_1 → ((D.int (fn 17 [[D.i a0_0, D.i a0_1, D.i a0_2]] 0 0)) = 0) → (x0_1 < (a1.length : Int)) → x0_1 < (a1.length : Int)
  g5 : ∀ x0_0 x0_1, I0 x0_0 x0_1 → ((D.int (fn 17 [[D.i a0_0, D.i a0_1, D.i a0_2]] 0 0)) = 0) → (x0_1 < (a1.length : Int)) → (((Int.toNat x0_1 : Nat) : Int)) < (a1.length : Int)
  g6 : ∀ x0_0 x0_1, I0 x0_0 x0_1 → ((D.int (fn 17 [[D.i a0_0, D.i a0_1, D.i a0_2]] 0 0)) = 0) → (x0_1 < (a1.length : Int)) → ((D.int (gt a1 x0_1.toNat 0)) < 0) → R 0 0 = D.i 4
  g7 : ∀ x0_0 x0_1, I0 x0_0 x0_1 → ((D.int (fn 17 [[D.i a0_0, D.i a0_1, D.i a0_2]] 0 0)) = 0) → (x0_1 < (a1.length : Int)) → (¬ (D.int (gt a1 x0_1.toNat 0)) < 0) → -9223372036854775808 ≤ (a0_0 * a0_1) ∧ (a0_0 * a0_1) ≤ 9223372036854775807
  g8 : ∀ x0_0 x0_1, I0 x0_0 x0_1 → ((D.int (fn 17 [[D.i a0_0, D.i a0_1, D.i a0_2]] 0 0)) = 0) → (x0_1 < (a1.length : Int)) → (¬ (D.int (gt a1 x0_1.toNat 0)) < 0) → ((a0_0 * a0_1) ≤ (D.int (gt a1 x0_1.toNat 0))) → R 0 0 = D.i 4
  g9 : ∀ x0_0 x0_1, I0 x0_0 x0_1 → ((D.int (fn 17 [[D.i a0_0, D.i a0_1, D.i a0_2]] 0 0)) = 0) → (x0_1 < (a1.length : Int)) → (¬ (D.int (gt a1 x0_1.toNat 0)) < 0) → (¬ (a0_0 * a0_1) ≤ (D.int (gt a1 x0_1.toNat 0))) → -9223372036854775808 ≤ (x0_1 + 1) ∧ (x0_1 + 1) ≤ 9223372036854775807
  n10 : ∀ x0_0 x0_1, I0 x0_0 x0_1 → ((D.int (fn 17 [[D.i a0_0, D.i a0_1, D.i a0_2]] 0 0)) = 0) → (x0_1 < (a1.length : Int)) → (¬ (D.int (gt a1 x0_1.toNat 0)) < 0) → (¬ (a0_0 * a0_1) ≤ (D.int (gt a1 x0_1.toNat 0))) → I0 x0_0 (x0_1 + 1) ∧ m0 x0_0 (x0_1 + 1) < m0 x0_0 x0_1
  g11 : ∀ x0_0 x0_1, I0 x0_0 x0_1 → ((D.int (fn 17 [[D.i a0_0, D.i a0_1, D.i a0_2]] 0 0)) = 0) → (¬ x0_1 < (a1.length : Int)) → R 0 0 = D.i 0
end HX

namespace HX
open Go Go.Proofs CX
structure V50 (a0_0 : Int) (a0_1 : Int) (a0_2 : Int) (a1 : Int) (R : Nat → Nat → D)  : Prop where
  g0 : a0_0 ≠ 0
  g2 : -9223372036854775808 ≤ (Int.tdiv a1 a0_0) ∧ (Int.tdiv a1 a0_0) ≤ 9223372036854775807
  g3 : R 0 0 = D.i (Int.tmod a1 a0_0)
  g4 : R 0 1 = D.i (Int.tdiv a1 a0_0)
end HX

namespace HX
open Go Go.Proofs CX
structure V53 (pre : Nat → List (List D) → Prop) (fn : Nat → List (List D) → Nat → Nat → D) (a0_0 : Int) (a0_1 : Int) (a0_2 : Int) (a1 : Int) (a2 : Int) (R : Nat → Nat → D)  : Prop where
  g0 : pre 18 [[D.i a0_0, D.i a0_1, D.i a0_2]]
  g1 : (¬ (D.int (fn 18 [[D.i a0_0, D.i a0_1, D.i a0_2]] 0 0)) = 0) → R 0 0 = D.i (D.int (fn 18 [[D.i a0_0, D.i a0_1, D.i a0_2]] 0 0))
  g2 : ((D.int (fn 18 [[D.i a0_0, D.i a0_1, D.i a0_2]] 0 0)) = 0) → (0 ≤ a1) → -9223372036854775808 ≤ (a0_0 * a0_1) ∧ (a0_0 * a0_1) ≤ 9223372036854775807
  g3 : ((D.int (fn 18 [[D.i a0_0, D.i a0_1, D.i a0_2]] 0 0)) = 0) → (0 ≤ a1) → (¬ a1 < (a0_0 * a0_1)) → R 0 0 = D.i 4
  g4 : ((D.int (fn 18 [[D.i a0_0, D.i a0_1, D.i a0_2]] 0 0)) = 0) → (0 ≤ a1) → (a1 < (a0_0 * a0_1)) → (0 ≤ a2) → -9223372036854775808 ≤ (a0_0 * a0_1) ∧ (a0_0 * a0_1) ≤ 9223372036854775807
  g5 : ((D.int (fn 18 [[D.i a0_0, D.i a0_1, D.i a0_2]] 0 0)) = 0) → (0 ≤ a1) → (a1 < (a0_0 * a0_1)) → (0 ≤ a2) → (¬ a2 < (a0_0 * a0_1)) → R 0 0 = D.i 4
  g6 : ((D.int (fn 18 [[D.i a0_0, D.i a0_1, D.i a0_2]] 0 0)) = 0) → (0 ≤ a1) → (a1 < (a0_0 * a0_1)) → (0 ≤ a2) → (a2 < (a0_0 * a0_1)) → R 0 0 = D.i 0
  g7 : ((D.int (fn 18 [[D.i a0_0, D.i a0_1, D.i a0_2]] 0 0)) = 0) → (0 ≤ a1) → (a1 < (a0_0 * a0_1)) → (¬ 0 ≤ a2) → R 0 0 = D.i 4
  g8 : ((D.int (fn 18 [[D.i a0_0, D.i a0_1, D.i a0_2]] 0 0)) = 0) → (¬ 0 ≤ a1) → R 0 0 = D.i 4
end HX

namespace HX
open Go Go.Proofs CX
structure V54 (a0_0 : Int) (a0_1 : Int) (a0_2 : Int) (a1 : Int) (a2 : Int) (R : Nat → Nat → D)  : Prop where
  g0 : a0_0 ≠ 0
  g2 : -9223372036854775808 ≤ (Int.tdiv a1 a0_0) ∧ (Int.tdiv a1 a0_0) ≤ 9223372036854775807
  g3 : (a2 = 1) → -9223372036854775808 ≤ ((Int.tmod a1 a0_0) + 1) ∧ ((Int.tmod a1 a0_0) + 1) ≤ 9223372036854775807
  g4 : (a2 = 1) → (((Int.tmod a1 a0_0) + 1) < a0_0) → -9223372036854775808 ≤ (a1 + 1) ∧ (a1 + 1) ≤ 9223372036854775807
  g5 : (a2 = 1) → (((Int.tmod a1 a0_0) + 1) < a0_0) → R 0 0 = D.i (a1 + 1)
  g6 : (a2 = 1) → (¬ ((Int.tmod a1 a0_0) + 1) < a0_0) → (a2 = 2) → -9223372036854775808 ≤ ((Int.tdiv a1 a0_0) + 1) ∧ ((Int.tdiv a1 a0_0) + 1) ≤ 9223372036854775807
  g7 : (a2 = 1) → (¬ ((Int.tmod a1 a0_0) + 1) < a0_0) → (a2 = 2) → (((Int.tdiv a1 a0_0) + 1) < a0_1) → -9223372036854775808 ≤ (a1 + a0_0) ∧ (a1 + a0_0) ≤ 9223372036854775807
  g8 : (a2 = 1) → (¬ ((Int.tmod a1 a0_0) + 1) < a0_0) → (a2 = 2) → (((Int.tdiv a1 a0_0) + 1) < a0_1) → R 0 0 = D.i (a1 + a0_0)
  g9 : (a2 = 1) → (¬ ((Int.tmod a1 a0_0) + 1) < a0_0) → (a2 = 2) → (¬ ((Int.tdiv a1 a0_0) + 1) < a0_1) → (a2 = 4) → (0 < (Int.tmod a1 a0_0)) → -9223372036854775808 ≤ (a1 - 1) ∧ (a1 - 1) ≤ 9223372036854775807
  g10 : (a2 = 1) → (¬ ((Int.tmod a1 a0_0) + 1) < a0_0) → (a2 = 2) → (¬ ((Int.tdiv a1 a0_0) + 1) < a0_1) → (a2 = 4) → (0 < (Int.tmod a1 a0_0)) → R 0 0 = D.i (a1 - 1)
  g11 : (a2 = 1) → (¬ ((Int.tmod a1 a0_0) + 1) < a0_0) → (a2 = 2) → (¬ ((Int.tdiv a1 a0_0) + 1) < a0_1) → (a2 = 4) → (¬ 0 < (Int.tmod a1 a0_0)) → (a2 = 8) → (0 < (Int.tdiv a1 a0_0)) → -9223372036854775808 ≤ (a1 - a0_0) ∧ (a1 - a0_0) ≤ 9223372036854775807
  g12 : (a2 = 1) → (¬ ((Int.tmod a1 a0_0) + 1) < a0_0) → (a2 = 2) → (¬ ((Int.tdiv a1 a0_0) + 1) < a0_1) → (a2 = 4) → (¬ 0 < (Int.tmod a1 a0_0)) → (a2 = 8) → (0 < (Int.tdiv a1 a0_0)) → R 0 0 = D.i (a1 - a0_0)
  g13 : (a2 = 1) → (¬ ((Int.tmod a1 a0_0) + 1) < a0_0) → (a2 = 2) → (¬ ((Int.tdiv a1 a0_0) + 1) < a0_1) → (a2 = 4) → (¬ 0 < (Int.tmod a1 a0_0)) → (a2 = 8) → (¬ 0 < (Int.tdiv a1 a0_0)) → R 0 0 = D.i (-1)
  g14 : (a2 = 1) → (¬ ((Int.tmod a1 a0_0) + 1) < a0_0) → (a2 = 2) → (¬ ((Int.tdiv a1 a0_0) + 1) < a0_1) → (a2 = 4) → (¬ 0 < (Int.tmod a1 a0_0)) → (¬ a2 = 8) → R 0 0 = D.i (-1)
  g15 : (a2 = 1) → (¬ ((Int.tmod a1 a0_0) + 1) < a0_0) → (a2 = 2) → (¬ ((Int.tdiv a1 a0_0) + 1) < a0_1) → (¬ a2 = 4) → (a2 = 8) → (0 < (Int.tdiv a1 a0_0)) → -9223372036854775808 ≤ (a1 - a0_0) ∧ (a1 - a0_0) ≤ 9223372036854775807
  g16 : (a2 = 1) → (¬ ((Int.tmod a1 a0_0) + 1) < a0_0) → (a2 = 2) → (¬ ((Int.tdiv a1 a0_0) + 1) < a0_1) → (¬ a2 = 4) → (a2 = 8) → (0 < (Int.tdiv a1 a0_0)) → R 0 0 = D.i (a1 - a0_0)
  g17 : (a2 = 1) → (¬ ((Int.tmod a1 a0_0) + 1) < a0_0) → (a2 = 2) → (¬ ((Int.tdiv a1 a0_0) + 1) < a0_1) → (¬ a2 = 4) → (a2 = 8) → (¬ 0 < (Int.tdiv a1 a0_0)) → R 0 0 = D.i (-1)
  g18 : (a2 = 1) → (¬ ((Int.tmod a1 a0_0) + 1) < a0_0) → (a2 = 2) → (¬ ((Int.tdiv a1 a0_0) + 1) < a0_1) → (¬ a2 = 4) → (¬ a2 = 8) → R 0 0 = D.i (-1)
  g19 : (a2 = 1) → (¬ ((Int.tmod a1 a0_0) + 1) < a0_0) → (¬ a2 = 2) → (a2 = 4) → (0 < (Int.tmod a1 a0_0)) → -9223372036854775808 ≤ (a1 - 1) ∧ (a1 - 1) ≤ 9223372036854775807
  g20 : (a2 = 1) → (¬ ((Int.tmod a1 a0_0) + 1) < a0_0) → (¬ a2 = 2) → (a2 = 4) → (0 < (Int.tmod a1 a0_0)) → R 0 0 = D.i (a1 - 1)
  g21 : (a2 = 1) → (¬ ((Int.tmod a1 a0_0) + 1) < a0_0) → (¬ a2 = 2) → (a2 = 4) → (¬ 0 < (Int.tmod a1 a0_0)) → (a2 = 8) → (0 < (Int.tdiv a1 a0_0)) → -9223372036854775808 ≤ (a1 - a0_0) ∧ (a1 - a0_0) ≤ 9223372036854775807
  g22 : (a2 = 1) → (¬ ((Int.tmod a1 a0_0) + 1) < a0_0) → (¬ a2 = 2) → (a2 = 4) → (¬ 0 < (Int.tmod a1 a0_0)) → (a2 = 8) → (0 < (Int.tdiv a1 a0_0)) → R 0 0 = D.i (a1 - a0_0)
  g23 : (a2 = 1) → (¬ ((Int.tmod a1 a0_0) + 1) < a0_0) → (¬ a2 = 2) → (a2 = 4) → (¬ 0 < (Int.tmod a1 a0_0)) → (a2 = 8) → (¬ 0 < (Int.tdiv a1 a0_0)) → R 0 0 = D.i (-1)
  g24 : (a2 = 1) → (¬ ((Int.tmod a1 a0_0) + 1) < a0_0) → (¬ a2 = 2) → (a2 = 4) → (¬ 0 < (Int.tmod a1 a0_0)) → (¬ a2 = 8) → R 0 0 = D.i (-1)
  g25 : (a2 = 1) → (¬ ((Int.tmod a1 a0_0) + 1) < a0_0) → (¬ a2 = 2) → (¬ a2 = 4) → (a2 = 8) → (0 < (Int.tdiv a1 a0_0)) → -9223372036854775808 ≤ (a1 - a0_0) ∧ (a1 - a0_0) ≤ 9223372036854775807
  g26 : (a2 = 1) → (¬ ((Int.tmod a1 a0_0) + 1) < a0_0) → (¬ a2 = 2) → (¬ a2 = 4) → (a2 = 8) → (0 < (Int.tdiv a1 a0_0)) → R 0 0 = D.i (a1 - a0_0)
  g27 : (a2 = 1) → (¬ ((Int.tmod a1 a0_0) + 1) < a0_0) → (¬ a2 = 2) → (¬ a2 = 4) → (a2 = 8) → (¬ 0 < (Int.tdiv a1 a0_0)) → R 0 0 = D.i (-1)
  g28 : (a2 = 1) → (¬ ((Int.tmod a1 a0_0) + 1) < a0_0) → (¬ a2 = 2) → (¬ a2 = 4) → (¬ a2 = 8) → R 0 0 = D.i (-1)
  g29 : (¬ a2 = 1) → (a2 = 2) → -9223372036854775808 ≤ ((Int.tdiv a1 a0_0) + 1) ∧ ((Int.tdiv a1 a0_0) + 1) ≤ 9223372036854775807
  g30 : (¬ a2 = 1) → (a2 = 2) → (((Int.tdiv a1 a0_0) + 1) < a0_1) → -9223372036854775808 ≤ (a1 + a0_0) ∧ (a1 + a0_0) ≤ 9223372036854775807
  g31 : (¬ a2 = 1) → (a2 = 2) → (((Int.tdiv a1 a0_0) + 1) < a0_1) → R 0 0 = D.i (a1 + a0_0)
  g32 : (¬ a2 = 1) → (a2 = 2) → (¬ ((Int.tdiv a1 a0_0) + 1) < a0_1) → (a2 = 4) → (0 < (Int.tmod a1 a0_0)) → -9223372036854775808 ≤ (a1 - 1) ∧ (a1 - 1) ≤ 9223372036854775807
  g33 : (¬ a2 = 1) → (a2 = 2) → (¬ ((Int.tdiv a1 a0_0) + 1) < a0_1) → (a2 = 4) → (0 < (Int.tmod a1 a0_0)) → R 0 0 = D.i (a1 - 1)
  g34 : (¬ a2 = 1) → (a2 = 2) → (¬ ((Int.tdiv a1 a0_0) + 1) < a0_1) → (a2 = 4) → (¬ 0 < (Int.tmod a1 a0_0)) → (a2 = 8) → (0 < (Int.tdiv a1 a0_0)) → -9223372036854775808 ≤ (a1 - a0_0) ∧ (a1 - a0_0) ≤ 9223372036854775807
  g35 : (¬ a2 = 1) → (a2 = 2) → (¬ ((Int.tdiv a1 a0_0) + 1) < a0_1) → (a2 = 4) → (¬ 0 < (Int.tmod a1 a0_0)) → (a2 = 8) → (0 < (Int.tdiv a1 a0_0)) → R 0 0 = D.i (a1 - a0_0)
  g36 : (¬ a2 = 1) → (a2 = 2) → (¬ ((Int.tdiv a1 a0_0) + 1) < a0_1) → (a2 = 4) → (¬ 0 < (Int.tmod a1 a0_0)) → (a2 = 8) → (¬ 0 < (Int.tdiv a1 a0_0)) → R 0 0 = D.i (-1)
  g37 : (¬ a2 = 1) → (a2 = 2) → (¬ ((Int.tdiv a1 a0_0) + 1) < a0_1) → (a2 = 4) → (¬ 0 < (Int.tmod a1 a0_0)) → (¬ a2 = 8) → R 0 0 = D.i (-1)
  g38 : (¬ a2 = 1) → (a2 = 2) → (¬ ((Int.tdiv a1 a0_0) + 1) < a0_1) → (¬ a2 = 4) → (a2 = 8) → (0 < (Int.tdiv a1 a0_0)) → -9223372036854775808 ≤ (a1 - a0_0) ∧ (a1 - a0_0) ≤ 9223372036854775807
  g39 : (¬ a2 = 1) → (a2 = 2) → (¬ ((Int.tdiv a1 a0_0) + 1) < a0_1) → (¬ a2 = 4) → (a2 = 8) → (0 < (Int.tdiv a1 a0_0)) → R 0 0 = D.i (a1 - a0_0)
  g40 : (¬ a2 = 1) → (a2 = 2) → (¬ ((Int.tdiv a1 a0_0) + 1) < a0_1) → (¬ a2 = 4) → (a2 = 8) → (¬ 0 < (Int.tdiv a1 a0_0)) → R 0 0 = D.i (-1)
  g41 : (¬ a2 = 1) → (a2 = 2) → (¬ ((Int.tdiv a1 a0_0) + 1) < a0_1) → (¬ a2 = 4) → (¬ a2 = 8) → R 0 0 = D.i (-1)
  g42 : (¬ a2 = 1) → (¬ a2 = 2) → (a2 = 4) → (0 < (Int.tmod a1 a0_0)) → -9223372036854775808 ≤ (a1 - 1) ∧ (a1 - 1) ≤ 9223372036854775807
  g43 : (¬ a2 = 1) → (¬ a2 = 2) → (a2 = 4) → (0 < (Int.tmod a1 a0_0)) → R 0 0 = D.i (a1 - 1)
  g44 : (¬ a2 = 1) → (¬ a2 = 2) → (a2 = 4) → (¬ 0 < (Int.tmod a1 a0_0)) → (a2 = 8) → (0 < (Int.tdiv a1 a0_0)) → -9223372036854775808 ≤ (a1 - a0_0) ∧ (a1 - a0_0) ≤ 9223372036854775807
  g45 : (¬ a2 = 1) → (¬ a2 = 2) → (a2 = 4) → (¬ 0 < (Int.tmod a1 a0_0)) → (a2 = 8) → (0 < (Int.tdiv a1 a0_0)) → R 0 0 = D.i (a1 - a0_0)
  g46 : (¬ a2 = 1) → (¬ a2 = 2) → (a2 = 4) → (¬ 0 < (Int.tmod a1 a0_0)) → (a2 = 8) → (¬ 0 < (Int.tdiv a1 a0_0)) → R 0 0 = D.i (-1)
  g47 : (¬ a2 = 1) → (¬ a2 = 2) → (a2 = 4) → (¬ 0 < (Int.tmod a1 a0_0)) → (¬ a2 = 8) → R 0 0 = D.i (-1)
  g48 : (¬ a2 = 1) → (¬ a2 = 2) → (¬ a2 = 4) → (a2 = 8) → (0 < (Int.tdiv a1 a0_0)) → -9223372036854775808 ≤ (a1 - a0_0) ∧ (a1 - a0_0) ≤ 9223372036854775807
  g49 : (¬ a2 = 1) → (¬ a2 = 2) → (¬ a2 = 4) → (a2 = 8) → (0 < (Int.tdiv a1 a0_0)) → R 0 0 = D.i (a1 - a0_0)
  g50 : (¬ a2 = 1) → (¬ a2 = 2) → (¬ a2 = 4) → (a2 = 8) → (¬ 0 < (Int.tdiv a1 a0_0)) → R 0 0 = D.i (-1)
  g51 : (¬ a2 = 1) → (¬ a2 = 2) → (¬ a2 = 4) → (¬ a2 = 8) → R 0 0 = D.i (-1)
end HX

namespace HX
open Go Go.Proofs CX
structure V55 (a0_0 : Int) (a0_1 : Int) (a0_2 : Int) (a1 : Int) (a2 : Int) (R : Nat → Nat → D)  : Prop where
  g0 : a0_0 ≠ 0
  g2 : -9223372036854775808 ≤ (Int.tdiv a1 a0_0) ∧ (Int.tdiv a1 a0_0) ≤ 9223372036854775807
  g5 : -9223372036854775808 ≤ (Int.tdiv a2 a0_0) ∧ (Int.tdiv a2 a0_0) ≤ 9223372036854775807
  g6 : ((Int.tmod a1 a0_0) < (Int.tmod a2 a0_0)) → R 0 0 = D.i 1
  g7 : (¬ (Int.tmod a1 a0_0) < (Int.tmod a2 a0_0)) → ((Int.tmod a2 a0_0) < (Int.tmod a1 a0_0)) → R 0 0 = D.i 4
  g8 : (¬ (Int.tmod a1 a0_0) < (Int.tmod a2 a0_0)) → (¬ (Int.tmod a2 a0_0) < (Int.tmod a1 a0_0)) → ((Int.tdiv a1 a0_0) < (Int.tdiv a2 a0_0)) → R 0 0 = D.i 2
  g9 : (¬ (Int.tmod a1 a0_0) < (Int.tmod a2 a0_0)) → (¬ (Int.tmod a2 a0_0) < (Int.tmod a1 a0_0)) → (¬ (Int.tdiv a1 a0_0) < (Int.tdiv a2 a0_0)) → ((Int.tdiv a2 a0_0) < (Int.tdiv a1 a0_0)) → R 0 0 = D.i 8
  g10 : (¬ (Int.tmod a1 a0_0) < (Int.tmod a2 a0_0)) → (¬ (Int.tmod a2 a0_0) < (Int.tmod a1 a0_0)) → (¬ (Int.tdiv a1 a0_0) < (Int.tdiv a2 a0_0)) → (¬ (Int.tdiv a2 a0_0) < (Int.tdiv a1 a0_0)) → R 0 0 = D.i 16
end HX

namespace HX
open Go Go.Proofs CX
structure V56 (pre : Nat → List (List D) → Prop) (fn : Nat → List (List D) → Nat → Nat → D) (a0_0 : Int) (a0_1 : Int) (a0_2 : Int) (a1 : Int) (a2 : Int) (R : Nat → Nat → D)  : Prop where
  g0 : pre 50 [[D.i a0_0, D.i a0_1, D.i a0_2], [D.i a1]]
  g1 : pre 50 [[D.i a0_0, D.i a0_1, D.i a0_2], [D.i a2]]
  g2 : ((D.int (fn 50 [[D.i a0_0, D.i a0_1, D.i a0_2], [D.i a1]] 0 0)) < (D.int (fn 50 [[D.i a0_0, D.i a0_1, D.i a0_2], [D.i a2]] 0 0))) → R 0 0 = D.i 1
  g3 : (¬ (D.int (fn 50 [[D.i a0_0, D.i a0_1, D.i a0_2], [D.i a1]] 0 0)) < (D.int (fn 50 [[D.i a0_0, D.i a0_1, D.i a0_2], [D.i a2]] 0 0))) → ((D.int (fn 50 [[D.i a0_0, D.i a0_1, D.i a0_2], [D.i a2]] 0 0)) < (D.int (fn 50 [[D.i a0_0, D.i a0_1, D.i a0_2], [D.i a1]] 0 0))) → R 0 0 = D.i 4
  g4 : (¬ (D.int (fn 50 [[D.i a0_0, D.i a0_1, D.i a0_2], [D.i a1]] 0 0)) < (D.int (fn 50 [[D.i a0_0, D.i a0_1, D.i a0_2], [D.i a2]] 0 0))) → (¬ (D.int (fn 50 [[D.i a0_0, D.i a0_1, D.i a0_2], [D.i a2]] 0 0)) < (D.int (fn 50 [[D.i a0_0, D.i a0_1, D.i a0_2], [D.i a1]] 0 0))) → ((D.int (fn 50 [[D.i a0_0, D.i a0_1, D.i a0_2], [D.i a1]] 0 1)) < (D.int (fn 50 [[D.i a0_0, D.i a0_1, D.i a0_2], [D.i a2]] 0 1))) → R 0 0 = D.i 2
  g5 : (¬ (D.int (fn 50 [[D.i a0_0, D.i a0_1, D.i a0_2], [D.i a1]] 0 0)) < (D.int (fn 50 [[D.i a0_0, D.i a0_1, D.i a0_2], [D.i a2]] 0 0))) → (¬ (D.int (fn 50 [[D.i a0_0, D.i a0_1, D.i a0_2], [D.i a2]] 0 0)) < (D.int (fn 50 [[D.i a0_0, D.i a0_1, D.i a0_2], [D.i a1]] 0 0))) → (¬ (D.int (fn 50 [[D.i a0_0, D.i a0_1, D.i a0_2], [D.i a1]] 0 1)) < (D.int (fn 50 [[D.i a0_0, D.i a0_1, D.i a0_2], [D.i a2]] 0 1))) → ((D.int (fn 50 [[D.i a0_0, D.i a0_1, D.i a0_2], [D.i a2]] 0 1)) < (D.int (fn 50 [[D.i a0_0, D.i a0_1, D.i a0_2], [D.i a1]] 0 1))) → R 0 0 = D.i 8
  g6 : (¬ (D.int (fn 50 [[D.i a0_0, D.i a0_1, D.i a0_2], [D.i a1]] 0 0)) < (D.int (fn 50 [[D.i a0_0, D.i a0_1, D.i a0_2], [D.i a2]] 0 0))) → (¬ (D.int (fn 50 [[D.i a0_0, D.i a0_1, D.i a0_2], [D.i a2]] 0 0)) < (D.int (fn 50 [[D.i a0_0, D.i a0_1, D.i a0_2], [D.i a1]] 0 0))) → (¬ (D.int (fn 50 [[D.i a0_0, D.i a0_1, D.i a0_2], [D.i a1]] 0 1)) < (D.int (fn 50 [[D.i a0_0, D.i a0_1, D.i a0_2], [D.i a2]] 0 1))) → (¬ (D.int (fn 50 [[D.i a0_0, D.i a0_1, D.i a0_2], [D.i a2]] 0 1)) < (D.int (fn 50 [[D.i a0_0, D.i a0_1, D.i a0_2], [D.i a1]] 0 1))) → R 0 0 = D.i 16
end HX

namespace HX
open Go Go.Proofs CX
structure V88 (a0_0 : Int) (a0_1 : Int) (a0_2 : Int) (a1 : Int) (a2 : Int) (R : Nat → Nat → D)  : Prop where
  g0 : a0_0 ≠ 0
  g2 : -9223372036854775808 ≤ (Int.tdiv a1 a0_0) ∧ (Int.tdiv a1 a0_0) ≤ 9223372036854775807
  g3 : (a2 = 1) → -9223372036854775808 ≤ ((Int.tmod a1 a0_0) + 1) ∧ ((Int.tmod a1 a0_0) + 1) ≤ 9223372036854775807
  g4 : (a2 = 1) → -9223372036854775808 ≤ ((Int.tdiv a1 a0_0) * a0_0) ∧ ((Int.tdiv a1 a0_0) * a0_0) ≤ 9223372036854775807
  g5 : (a2 = 1) → -9223372036854775808 ≤ (((Int.tdiv a1 a0_0) * a0_0) + ((Int.tmod a1 a0_0) + 1)) ∧ (((Int.tdiv a1 a0_0) * a0_0) + ((Int.tmod a1 a0_0) + 1)) ≤ 9223372036854775807
  g6 : (a2 = 1) → (0 ≤ ((Int.tmod a1 a0_0) + 1)) → (((Int.tmod a1 a0_0) + 1) < a0_0) → (0 ≤ (Int.tdiv a1 a0_0)) → R 0 0 = D.i (((Int.tdiv a1 a0_0) * a0_0) + ((Int.tmod a1 a0_0) + 1))
  g7 : (a2 = 1) → (0 ≤ ((Int.tmod a1 a0_0) + 1)) → (((Int.tmod a1 a0_0) + 1) < a0_0) → (0 ≤ (Int.tdiv a1 a0_0)) → R 1 0 = D.b (decide ((Int.tdiv a1 a0_0) < a0_1))
  g8 : (a2 = 1) → (0 ≤ ((Int.tmod a1 a0_0) + 1)) → (((Int.tmod a1 a0_0) + 1) < a0_0) → (¬ 0 ≤ (Int.tdiv a1 a0_0)) → R 0 0 = D.i (((Int.tdiv a1 a0_0) * a0_0) + ((Int.tmod a1 a0_0) + 1))
  g9 : (a2 = 1) → (0 ≤ ((Int.tmod a1 a0_0) + 1)) → (((Int.tmod a1 a0_0) + 1) < a0_0) → (¬ 0 ≤ (Int.tdiv a1 a0_0)) → R 1 0 = D.b false
  g10 : (a2 = 1) → (0 ≤ ((Int.tmod a1 a0_0) + 1)) → (¬ ((Int.tmod a1 a0_0) + 1) < a0_0) → R 0 0 = D.i (((Int.tdiv a1 a0_0) * a0_0) + ((Int.tmod a1 a0_0) + 1))
  g11 : (a2 = 1) → (0 ≤ ((Int.tmod a1 a0_0) + 1)) → (¬ ((Int.tmod a1 a0_0) + 1) < a0_0) → R 1 0 = D.b false
  g12 : (a2 = 1) → (¬ 0 ≤ ((Int.tmod a1 a0_0) + 1)) → R 0 0 = D.i (((Int.tdiv a1 a0_0) * a0_0) + ((Int.tmod a1 a0_0) + 1))
  g13 : (a2 = 1) → (¬ 0 ≤ ((Int.tmod a1 a0_0) + 1)) → R 1 0 = D.b false
  g14 : (¬ a2 = 1) → (a2 = 2) → -9223372036854775808 ≤ ((Int.tdiv a1 a0_0) + 1) ∧ ((Int.tdiv a1 a0_0) + 1) ≤ 9223372036854775807
  g15 : (¬ a2 = 1) → (a2 = 2) → -9223372036854775808 ≤ (((Int.tdiv a1 a0_0) + 1) * a0_0) ∧ (((Int.tdiv a1 a0_0) + 1) * a0_0) ≤ 9223372036854775807
  g16 : (¬ a2 = 1) → (a2 = 2) → -9223372036854775808 ≤ ((((Int.tdiv a1 a0_0) + 1) * a0_0) + (Int.tmod a1 a0_0)) ∧ ((((Int.tdiv a1 a0_0) + 1) * a0_0) + (Int.tmod a1 a0_0)) ≤ 9223372036854775807
  g17 : (¬ a2 = 1) → (a2 = 2) → (0 ≤ (Int.tmod a1 a0_0)) → ((Int.tmod a1 a0_0) < a0_0) → (0 ≤ ((Int.tdiv a1 a0_0) + 1)) → R 0 0 = D.i ((((Int.tdiv a1 a0_0) + 1) * a0_0) + (Int.tmod a1 a0_0))
  g18 : (¬ a2 = 1) → (a2 = 2) → (0 ≤ (Int.tmod a1 a0_0)) → ((Int.tmod a1 a0_0) < a0_0) → (0 ≤ ((Int.tdiv a1 a0_0) + 1)) → R 1 0 = D.b (decide (((Int.tdiv a1 a0_0) + 1) < a0_1))
  g19 : (¬ a2 = 1) → (a2 = 2) → (0 ≤ (Int.tmod a1 a0_0)) → ((Int.tmod a1 a0_0) < a0_0) → (¬ 0 ≤ ((Int.tdiv a1 a0_0) + 1)) → R 0 0 = D.i ((((Int.tdiv a1 a0_0) + 1) * a0_0) + (Int.tmod a1 a0_0))
  g20 : (¬ a2 = 1) → (a2 = 2) → (0 ≤ (Int.tmod a1 a0_0)) → ((Int.tmod a1 a0_0) < a0_0) → (¬ 0 ≤ ((Int.tdiv a1 a0_0) + 1)) → R 1 0 = D.b false
  g21 : (¬ a2 = 1) → (a2 = 2) → (0 ≤ (Int.tmod a1 a0_0)) → (¬ (Int.tmod a1 a0_0) < a0_0) → R 0 0 = D.i ((((Int.tdiv a1 a0_0) + 1) * a0_0) + (Int.tmod a1 a0_0))
  g22 : (¬ a2 = 1) → (a2 = 2) → (0 ≤ (Int.tmod a1 a0_0)) → (¬ (Int.tmod a1 a0_0) < a0_0) → R 1 0 = D.b false
  g23 : (¬ a2 = 1) → (a2 = 2) → (¬ 0 ≤ (Int.tmod a1 a0_0)) → R 0 0 = D.i ((((Int.tdiv a1 a0_0) + 1) * a0_0) + (Int.tmod a1 a0_0))
  g24 : (¬ a2 = 1) → (a2 = 2) → (¬ 0 ≤ (Int.tmod a1 a0_0)) → R 1 0 = D.b false
  g25 : (¬ a2 = 1) → (¬ a2 = 2) → (a2 = 4) → -9223372036854775808 ≤ ((Int.tmod a1 a0_0) - 1) ∧ ((Int.tmod a1 a0_0) - 1) ≤ 9223372036854775807
  g26 : (¬ a2 = 1) → (¬ a2 = 2) → (a2 = 4) → -9223372036854775808 ≤ ((Int.tdiv a1 a0_0) * a0_0) ∧ ((Int.tdiv a1 a0_0) * a0_0) ≤ 9223372036854775807
  g27 : (¬ a2 = 1) → (¬ a2 = 2) → (a2 = 4) → -9223372036854775808 ≤ (((Int.tdiv a1 a0_0) * a0_0) + ((Int.tmod a1 a0_0) - 1)) ∧ (((Int.tdiv a1 a0_0) * a0_0) + ((Int.tmod a1 a0_0) - 1)) ≤ 9223372036854775807
  g28 : (¬ a2 = 1) → (¬ a2 = 2) → (a2 = 4) → (0 ≤ ((Int.tmod a1 a0_0) - 1)) → (((Int.tmod a1 a0_0) - 1) < a0_0) → (0 ≤ (Int.tdiv a1 a0_0)) → R 0 0 = D.i (((Int.tdiv a1 a0_0) * a0_0) + ((Int.tmod a1 a0_0) - 1))
  g29 : (¬ a2 = 1) → (¬ a2 = 2) → (a2 = 4) → (0 ≤ ((Int.tmod a1 a0_0) - 1)) → (((Int.tmod a1 a0_0) - 1) < a0_0) → (0 ≤ (Int.tdiv a1 a0_0)) → R 1 0 = D.b (decide ((Int.tdiv a1 a0_0) < a0_1))
  g30 : (¬ a2 = 1) → (¬ a2 = 2) → (a2 = 4) → (0 ≤ ((Int.tmod a1 a0_0) - 1)) → (((Int.tmod a1 a0_0) - 1) < a0_0) → (¬ 0 ≤ (Int.tdiv a1 a0_0)) → R 0 0 = D.i (((Int.tdiv a1 a0_0) * a0_0) + ((Int.tmod a1 a0_0) - 1))
  g31 : (¬ a2 = 1) → (¬ a2 = 2) → (a2 = 4) → (0 ≤ ((Int.tmod a1 a0_0) - 1)) → (((Int.tmod a1 a0_0) - 1) < a0_0) → (¬ 0 ≤ (Int.tdiv a1 a0_0)) → R 1 0 = D.b false
  g32 : (¬ a2 = 1) → (¬ a2 = 2) → (a2 = 4) → (0 ≤ ((Int.tmod a1 a0_0) - 1)) → (¬ ((Int.tmod a1 a0_0) - 1) < a0_0) → R 0 0 = D.i (((Int.tdiv a1 a0_0) * a0_0) + ((Int.tmod a1 a0_0) - 1))
  g33 : (¬ a2 = 1) → (¬ a2 = 2) → (a2 = 4) → (0 ≤ ((Int.tmod a1 a0_0) - 1)) → (¬ ((Int.tmod a1 a0_0) - 1) < a0_0) → R 1 0 = D.b false
  g34 : (¬ a2 = 1) → (¬ a2 = 2) → (a2 = 4) → (¬ 0 ≤ ((Int.tmod a1 a0_0) - 1)) → R 0 0 = D.i (((Int.tdiv a1 a0_0) * a0_0) + ((Int.tmod a1 a0_0) - 1))
  g35 : (¬ a2 = 1) → (¬ a2 = 2) → (a2 = 4) → (¬ 0 ≤ ((Int.tmod a1 a0_0) - 1)) → R 1 0 = D.b false
  g36 : (¬ a2 = 1) → (¬ a2 = 2) → (¬ a2 = 4) → (a2 = 8) → -9223372036854775808 ≤ ((Int.tdiv a1 a0_0) - 1) ∧ ((Int.tdiv a1 a0_0) - 1) ≤ 9223372036854775807
  g37 : (¬ a2 = 1) → (¬ a2 = 2) → (¬ a2 = 4) → (a2 = 8) → -9223372036854775808 ≤ (((Int.tdiv a1 a0_0) - 1) * a0_0) ∧ (((Int.tdiv a1 a0_0) - 1) * a0_0) ≤ 9223372036854775807
  g38 : (¬ a2 = 1) → (¬ a2 = 2) → (¬ a2 = 4) → (a2 = 8) → -9223372036854775808 ≤ ((((Int.tdiv a1 a0_0) - 1) * a0_0) + (Int.tmod a1 a0_0)) ∧ ((((Int.tdiv a1 a0_0) - 1) * a0_0) + (Int.tmod a1 a0_0)) ≤ 9223372036854775807
  g39 : (¬ a2 = 1) → (¬ a2 = 2) → (¬ a2 = 4) → (a2 = 8) → (0 ≤ (Int.tmod a1 a0_0)) → ((Int.tmod a1 a0_0) < a0_0) → (0 ≤ ((Int.tdiv a1 a0_0) - 1)) → R 0 0 = D.i ((((Int.tdiv a1 a0_0) - 1) * a0_0) + (Int.tmod a1 a0_0))
  g40 : (¬ a2 = 1) → (¬ a2 = 2) → (¬ a2 = 4) → (a2 = 8) → (0 ≤ (Int.tmod a1 a0_0)) → ((Int.tmod a1 a0_0) < a0_0) → (0 ≤ ((Int.tdiv a1 a0_0) - 1)) → R 1 0 = D.b (decide (((Int.tdiv a1 a0_0) - 1) < a0_1))
  g41 : (¬ a2 = 1) → (¬ a2 = 2) → (¬ a2 = 4) → (a2 = 8) → (0 ≤ (Int.tmod a1 a0_0)) → ((Int.tmod a1 a0_0) < a0_0) → (¬ 0 ≤ ((Int.tdiv a1 a0_0) - 1)) → R 0 0 = D.i ((((Int.tdiv a1 a0_0) - 1) * a0_0) + (Int.tmod a1 a0_0))
  g42 : (¬ a2 = 1) → (¬ a2 = 2) → (¬ a2 = 4) → (a2 = 8) → (0 ≤ (Int.tmod a1 a0_0)) → ((Int.tmod a1 a0_0) < a0_0) → (¬ 0 ≤ ((Int.tdiv a1 a0_0) - 1)) → R 1 0 = D.b false
  g43 : (¬ a2 = 1) → (¬ a2 = 2) → (¬ a2 = 4) → (a2 = 8) → (0 ≤ (Int.tmod a1 a0_0)) → (¬ (Int.tmod a1 a0_0) < a0_0) → R 0 0 = D.i ((((Int.tdiv a1 a0_0) - 1) * a0_0) + (Int.tmod a1 a0_0))
  g44 : (¬ a2 = 1) → (¬ a2 = 2) → (¬ a2 = 4) → (a2 = 8) → (0 ≤ (Int.tmod a1 a0_0)) → (¬ (Int.tmod a1 a0_0) < a0_0) → R 1 0 = D.b false
  g45 : (¬ a2 = 1) → (¬ a2 = 2) → (¬ a2 = 4) → (a2 = 8) → (¬ 0 ≤ (Int.tmod a1 a0_0)) → R 0 0 = D.i ((((Int.tdiv a1 a0_0) - 1) * a0_0) + (Int.tmod a1 a0_0))
  g46 : (¬ a2 = 1) → (¬ a2 = 2) → (¬ a2 = 4) → (a2 = 8) → (¬ 0 ≤ (Int.tmod a1 a0_0)) → R 1 0 = D.b false
  g47 : (¬ a2 = 1) → (¬ a2 = 2) → (¬ a2 = 4) → (¬ a2 = 8) → -9223372036854775808 ≤ ((Int.tdiv a1 a0_0) * a0_0) ∧ ((Int.tdiv a1 a0_0) * a0_0) ≤ 9223372036854775807
  g48 : (¬ a2 = 1) → (¬ a2 = 2) → (¬ a2 = 4) → (¬ a2 = 8) → -9223372036854775808 ≤ (((Int.tdiv a1 a0_0) * a0_0) + (Int.tmod a1 a0_0)) ∧ (((Int.tdiv a1 a0_0) * a0_0) + (Int.tmod a1 a0_0)) ≤ 9223372036854775807
  g49 : (¬ a2 = 1) → (¬ a2 = 2) → (¬ a2 = 4) → (¬ a2 = 8) → (0 ≤ (Int.tmod a1 a0_0)) → ((Int.tmod a1 a0_0) < a0_0) → (0 ≤ (Int.tdiv a1 a0_0)) → R 0 0 = D.i (((Int.tdiv a1 a0_0) * a0_0) + (Int.tmod a1 a0_0))
  g50 : (¬ a2 = 1) → (¬ a2 = 2) → (¬ a2 = 4) → (¬ a2 = 8) → (0 ≤ (Int.tmod a1 a0_0)) → ((Int.tmod a1 a0_0) < a0_0) → (0 ≤ (Int.tdiv a1 a0_0)) → R 1 0 = D.b (decide ((Int.tdiv a1 a0_0) < a0_1))
  g51 : (¬ a2 = 1) → (¬ a2 = 2) → (¬ a2 = 4) → (¬ a2 = 8) → (0 ≤ (Int.tmod a1 a0_0)) → ((Int.tmod a1 a0_0) < a0_0) → (¬ 0 ≤ (Int.tdiv a1 a0_0)) → R 0 0 = D.i (((Int.tdiv a1 a0_0) * a0_0) + (Int.tmod a1 a0_0))
  g52 : (¬ a2 = 1) → (¬ a2 = 2) → (¬ a2 = 4) → (¬ a2 = 8) → (0 ≤ (Int.tmod a1 a0_0)) → ((Int.tmod a1 a0_0) < a0_0) → (¬ 0 ≤ (Int.tdiv a1 a0_0)) → R 1 0 = D.b false
  g53 : (¬ a2 = 1) → (¬ a2 = 2) → (¬ a2 = 4) → (¬ a2 = 8) → (0 ≤ (Int.tmod a1 a0_0)) → (¬ (Int.tmod a1 a0_0) < a0_0) → R 0 0 = D.i (((Int.tdiv a1 a0_0) * a0_0) + (Int.tmod a1 a0_0))
  g54 : (¬ a2 = 1) → (¬ a2 = 2) → (¬ a2 = 4) → (¬ a2 = 8) → (0 ≤ (Int.tmod a1 a0_0)) → (¬ (Int.tmod a1 a0_0) < a0_0) → R 1 0 = D.b false
  g55 : (¬ a2 = 1) → (¬ a2 = 2) → (¬ a2 = 4) → (¬ a2 = 8) → (¬ 0 ≤ (Int.tmod a1 a0_0)) → R 0 0 = D.i (((Int.tdiv a1 a0_0) * a0_0) + (Int.tmod a1 a0_0))
  g56 : (¬ a2 = 1) → (¬ a2 = 2) → (¬ a2 = 4) → (¬ a2 = 8) → (¬ 0 ≤ (Int.tmod a1 a0_0)) → R 1 0 = D.b false
end HX

namespace HX
open Go Go.Proofs CX
structure V15 (pre : Nat → List (List D) → Prop) (fn : Nat → List (List D) → Nat → Nat → D) (a0_0 : Int) (a0_1 : Int) (a0_2 : Int) (a1 : Int) (a2 : Int) (R : Nat → Nat → D)  : Prop where
  g0 : pre 49 [[D.i a0_0, D.i a0_1, D.i a0_2], [D.l [[D.i a1], [D.i a2]]]]
  g1 : (¬ (D.int (fn 49 [[D.i a0_0, D.i a0_1, D.i a0_2], [D.l [[D.i a1], [D.i a2]]]] 0 0)) = 0) → R 0 0 = D.i 0
  g2 : (¬ (D.int (fn 49 [[D.i a0_0, D.i a0_1, D.i a0_2], [D.l [[D.i a1], [D.i a2]]]] 0 0)) = 0) → R 1 0 = D.i (D.int (fn 49 [[D.i a0_0, D.i a0_1, D.i a0_2], [D.l [[D.i a1], [D.i a2]]]] 0 0))
  g3 : ((D.int (fn 49 [[D.i a0_0, D.i a0_1, D.i a0_2], [D.l [[D.i a1], [D.i a2]]]] 0 0)) = 0) → pre 50 [[D.i a0_0, D.i a0_1, D.i a0_2], [D.i a1]]
  g4 : ((D.int (fn 49 [[D.i a0_0, D.i a0_1, D.i a0_2], [D.l [[D.i a1], [D.i a2]]]] 0 0)) = 0) → pre 50 [[D.i a0_0, D.i a0_1, D.i a0_2], [D.i a2]]
  g5 : ((D.int (fn 49 [[D.i a0_0, D.i a0_1, D.i a0_2], [D.l [[D.i a1], [D.i a2]]]] 0 0)) = 0) → -9223372036854775808 ≤ ((D.int (fn 50 [[D.i a0_0, D.i a0_1, D.i a0_2], [D.i a1]] 0 0)) - (D.int (fn 50 [[D.i a0_0, D.i a0_1, D.i a0_2], [D.i a2]] 0 0))) ∧ ((D.int (fn 50 [[D.i a0_0, D.i a0_1, D.i a0_2], [D.i a1]] 0 0)) - (D.int (fn 50 [[D.i a0_0, D.i a0_1, D.i a0_2], [D.i a2]] 0 0))) ≤ 9223372036854775807
  g6 : ((D.int (fn 49 [[D.i a0_0, D.i a0_1, D.i a0_2], [D.l [[D.i a1], [D.i a2]]]] 0 0)) = 0) → -9223372036854775808 ≤ ((D.int (fn 50 [[D.i a0_0, D.i a0_1, D.i a0_2], [D.i a2]] 0 0)) - (D.int (fn 50 [[D.i a0_0, D.i a0_1, D.i a0_2], [D.i a1]] 0 0))) ∧ ((D.int (fn 50 [[D.i a0_0, D.i a0_1, D.i a0_2], [D.i a2]] 0 0)) - (D.int (fn 50 [[D.i a0_0, D.i a0_1, D.i a0_2], [D.i a1]] 0 0))) ≤ 9223372036854775807
  g7 : ((D.int (fn 49 [[D.i a0_0, D.i a0_1, D.i a0_2], [D.l [[D.i a1], [D.i a2]]]] 0 0)) = 0) → -9223372036854775808 ≤ ((D.int (fn 50 [[D.i a0_0, D.i a0_1, D.i a0_2], [D.i a1]] 0 1)) - (D.int (fn 50 [[D.i a0_0, D.i a0_1, D.i a0_2], [D.i a2]] 0 1))) ∧ ((D.int (fn 50 [[D.i a0_0, D.i a0_1, D.i a0_2], [D.i a1]] 0 1)) - (D.int (fn 50 [[D.i a0_0, D.i a0_1, D.i a0_2], [D.i a2]] 0 1))) ≤ 9223372036854775807
  g8 : ((D.int (fn 49 [[D.i a0_0, D.i a0_1, D.i a0_2], [D.l [[D.i a1], [D.i a2]]]] 0 0)) = 0) → -9223372036854775808 ≤ ((D.int (fn 50 [[D.i a0_0, D.i a0_1, D.i a0_2], [D.i a2]] 0 1)) - (D.int (fn 50 [[D.i a0_0, D.i a0_1, D.i a0_2], [D.i a1]] 0 1))) ∧ ((D.int (fn 50 [[D.i a0_0, D.i a0_1, D.i a0_2], [D.i a2]] 0 1)) - (D.int (fn 50 [[D.i a0_0, D.i a0_1, D.i a0_2], [D.i a1]] 0 1))) ≤ 9223372036854775807
  g9 : ((D.int (fn 49 [[D.i a0_0, D.i a0_1, D.i a0_2], [D.l [[D.i a1], [D.i a2]]]] 0 0)) = 0) → -9223372036854775808 ≤ ((mxI ((D.int (fn 50 [[D.i a0_0, D.i a0_1, D.i a0_2], [D.i a1]] 0 0)) - (D.int (fn 50 [[D.i a0_0, D.i a0_1, D.i a0_2], [D.i a2]] 0 0))) ((D.int (fn 50 [[D.i a0_0, D.i a0_1, D.i a0_2], [D.i a2]] 0 0)) - (D.int (fn 50 [[D.i a0_0, D.i a0_1, D.i a0_2], [D.i a1]] 0 0)))) + (mxI ((D.int (fn 50 [[D.i a0_0, D.i a0_1, D.i a0_2], [D.i a1]] 0 1)) - (D.int (fn 50 [[D.i a0_0, D.i a0_1, D.i a0_2], [D.i a2]] 0 1))) ((D.int (fn 50 [[D.i a0_0, D.i a0_1, D.i a0_2], [D.i a2]] 0 1)) - (D.int (fn 50 [[D.i a0_0, D.i a0_1, D.i a0_2], [D.i a1]] 0 1))))) ∧ ((mxI ((D.int (fn 50 [[D.i a0_0, D.i a0_1, D.i a0_2], [D.i a1]] 0 0)) - (D.int (fn 50 [[D.i a0_0, D.i a0_1, D.i a0_2], [D.i a2]] 0 0))) ((D.int (fn 50 [[D.i a0_0, D.i a0_1, D.i a0_2], [D.i a2]] 0 0)) - (D.int (fn 50 [[D.i a0_0, D.i a0_1, D.i a0_2], [D.i a1]] 0 0)))) + (mxI ((D.int (fn 50 [[D.i a0_0, D.i a0_1, D.i a0_2], [D.i a1]] 0 1)) - (D.int (fn 50 [[D.i a0_0, D.i a0_1, D.i a0_2], [D.i a2]] 0 1))) ((D.int (fn 50 [[D.i a0_0, D.i a0_1, D.i a0_2], [D.i a2]] 0 1)) - (D.int (fn 50 [[D.i a0_0, D.i a0_1, D.i a0_2], [D.i a1]] 0 1))))) ≤ 9223372036854775807
  g10 : ((D.int (fn 49 [[D.i a0_0, D.i a0_1, D.i a0_2], [D.l [[D.i a1], [D.i a2]]]] 0 0)) = 0) → R 0 0 = D.i ((mxI ((D.int (fn 50 [[D.i a0_0, D.i a0_1, D.i a0_2], [D.i a1]] 0 0)) - (D.int (fn 50 [[D.i a0_0, D.i a0_1, D.i a0_2], [D.i a2]] 0 0))) ((D.int (fn 50 [[D.i a0_0, D.i a0_1, D.i a0_2], [D.i a2]] 0 0)) - (D.int (fn 50 [[D.i a0_0, D.i a0_1, D.i a0_2], [D.i a1]] 0 0)))) + (mxI ((D.int (fn 50 [[D.i a0_0, D.i a0_1, D.i a0_2], [D.i a1]] 0 1)) - (D.int (fn 50 [[D.i a0_0, D.i a0_1, D.i a0_2], [D.i a2]] 0 1))) ((D.int (fn 50 [[D.i a0_0, D.i a0_1, D.i a0_2], [D.i a2]] 0 1)) - (D.int (fn 50 [[D.i a0_0, D.i a0_1, D.i a0_2], [D.i a1]] 0 1)))))
  g11 : ((D.int (fn 49 [[D.i a0_0, D.i a0_1, D.i a0_2], [D.l [[D.i a1], [D.i a2]]]] 0 0)) = 0) → R 1 0 = D.i 0
end HX

namespace HX
open Go Go.Proofs CX
structure V16 (pre : Nat → List (List D) → Prop) (fn : Nat → List (List D) → Nat → Nat → D) (a0_0 : Int) (a0_1 : Int) (a0_2 : Int) (a1 : Int) (a2 : Int) (R : Nat → Nat → D)  : Prop where
  g0 : pre 20 [[D.i a0_0, D.i a0_1, D.i a0_2], [D.i a1], [D.i a2]]
  g1 : (¬ (D.int (fn 20 [[D.i a0_0, D.i a0_1, D.i a0_2], [D.i a1], [D.i a2]] 1 0)) = 0) → R 0 0 = D.i 0
  g2 : (¬ (D.int (fn 20 [[D.i a0_0, D.i a0_1, D.i a0_2], [D.i a1], [D.i a2]] 1 0)) = 0) → R 1 0 = D.i (D.int (fn 20 [[D.i a0_0, D.i a0_1, D.i a0_2], [D.i a1], [D.i a2]] 1 0))
  g3 : ((D.int (fn 20 [[D.i a0_0, D.i a0_1, D.i a0_2], [D.i a1], [D.i a2]] 1 0)) = 0) → -9223372036854775808 ≤ ((((D.rows (fn 20 [[D.i a0_0, D.i a0_1, D.i a0_2], [D.i a1], [D.i a2]] 0 0))).length : Int) - 1) ∧ ((((D.rows (fn 20 [[D.i a0_0, D.i a0_1, D.i a0_2], [D.i a1], [D.i a2]] 0 0))).length : Int) - 1) ≤ 9223372036854775807
  g4 : ((D.int (fn 20 [[D.i a0_0, D.i a0_1, D.i a0_2], [D.i a1], [D.i a2]] 1 0)) = 0) → R 0 0 = D.i ((((D.rows (fn 20 [[D.i a0_0, D.i a0_1, D.i a0_2], [D.i a1], [D.i a2]] 0 0))).length : Int) - 1)
  g5 : ((D.int (fn 20 [[D.i a0_0, D.i a0_1, D.i a0_2], [D.i a1], [D.i a2]] 1 0)) = 0) → R 1 0 = D.i 0
end HX

namespace HX
open Go Go.Proofs CX
structure V20 (pre : Nat → List (List D) → Prop) (fn : Nat → List (List D) → Nat → Nat → D) (a0_0 : Int) (a0_1 : Int) (a0_2 : Int) (a1 : Int) (a2 : Int) (R : Nat → Nat → D) (I0 : Int → Rows → Prop) (m0 : Int → Rows → Nat) : Prop where
  g0 : pre 53 [[D.i a0_0, D.i a0_1, D.i a0_2], [D.i a1], [D.i a2]]
  g1 : (¬ (D.int (fn 53 [[D.i a0_0, D.i a0_1, D.i a0_2], [D.i a1], [D.i a2]] 0 0)) = 0) → R 0 0 = D.l []
  g2 : (¬ (D.int (fn 53 [[D.i a0_0, D.i a0_1, D.i a0_2], [D.i a1], [D.i a2]] 0 0)) = 0) → R 1 0 = D.i (D.int (fn 53 [[D.i a0_0, D.i a0_1, D.i a0_2], [D.i a1], [D.i a2]] 0 0))
  i0 : ((D.int (fn 53 [[D.i a0_0, D.i a0_1, D.i a0_2], [D.i a1], [D.i a2]] 0 0)) = 0) → I0 a1 [[D.i a1]]
  g4 : ∀ x0_0 x0_1, I0 x0_0 x0_1 → ((D.int (fn 53 [[D.i a0_0, D.i a0_1, D.i a0_2], [D.i a1], [D.i a2]] 0 0)) = 0) → (¬ x0_0 = a2) → pre 55 [[D.i a0_0, D.i a0_1, D.i a0_2], [D.i x0_0], [D.i a2]]
  g5 : ∀ x0_0 x0_1, I0 x0_0 x0_1 → ((D.int (fn 53 [[D.i a0_0, D.i a0_1, D.i a0_2], [D.i a1], [D.i a2]] 0 0)) = 0) → (¬ x0_0 = a2) → pre 54 [[D.i a0_0, D.i a0_1, D.i a0_2], [D.i x0_0], [D.i (D.int (fn 55 [[D.i a0_0, D.i a0_1, D.i a0_2], [D.i x0_0], [D.i a2]] 0 0))]]
  g6 : ∀ x0_0 x0_1, I0 x0_0 x0_1 → ((D.int (fn 53 [[D.i a0_0, D.i a0_1, D.i a0_2], [D.i a1], [D.i a2]] 0 0)) = 0) → (¬ x0_0 = a2) → (x0_1.length + (List.length ([[D.i (D.int (fn 54 [[D.i a0_0, D.i a0_1, D.i a0_2], [D.i x0_0], [D.i (D.int (fn 55 [[D.i a0_0, D.i a0_1, D.i a0_2], [D.i x0_0], [D.i a2]] 0 0))]] 0 0))]] : Rows))) * 8 ≤ 4294967296 ∧ (x0_1.length + (List.length ([[D.i (D.int (fn 54 [[D.i a0_0, D.i a0_1, D.i a0_2], [D.i x0_0], [D.i (D.int (fn 55 [[D.i a0_0, D.i a0_1, D.i a0_2], [D.i x0_0], [D.i a2]] 0 0))]] 0 0))]] : Rows))) ≤ 4294967296
  n7 : ∀ x0_0 x0_1, I0 x0_0 x0_1 → ((D.int (fn 53 [[D.i a0_0, D.i a0_1, D.i a0_2], [D.i a1], [D.i a2]] 0 0)) = 0) → (¬ x0_0 = a2) → I0 (D.int (fn 54 [[D.i a0_0, D.i a0_1, D.i a0_2], [D.i x0_0], [D.i (D.int (fn 55 [[D.i a0_0, D.i a0_1, D.i a0_2], [D.i x0_0], [D.i a2]] 0 0))]] 0 0)) (x0_1 ++ [[D.i (D.int (fn 54 [[D.i a0_0, D.i a0_1, D.i a0_2], [D.i x0_0], [D.i (D.int (fn 55 [[D.i a0_0, D.i a0_1, D.i a0_2], [D.i x0_0], [D.i a2]] 0 0))]] 0 0))]]) ∧ m0 (D.int (fn 54 [[D.i a0_0, D.i a0_1, D.i a0_2], [D.i x0_0], [D.i (D.int (fn 55 [[D.i a0_0, D.i a0_1, D.i a0_2], [D.i x0_0], [D.i a2]] 0 0))]] 0 0)) (x0_1 ++ [[D.i (D.int (fn 54 [[D.i a0_0, D.i a0_1, D.i a0_2], [D.i x0_0], [D.i (D.int (fn 55 [[D.i a0_0, D.i a0_1, D.i a0_2], [D.i x0_0], [D.i a2]] 0 0))]] 0 0))]]) < m0 x0_0 x0_1
  g8 : ∀ x0_0 x0_1, I0 x0_0 x0_1 → ((D.int (fn 53 [[D.i a0_0, D.i a0_1, D.i a0_2], [D.i a1], [D.i a2]] 0 0)) = 0) → (x0_0 = a2) → R 0 0 = D.l x0_1
  g9 : ∀ x0_0 x0_1, I0 x0_0 x0_1 → ((D.int (fn 53 [[D.i a0_0, D.i a0_1, D.i a0_2], [D.i a1], [D.i a2]] 0 0)) = 0) → (x0_0 = a2) → R 1 0 = D.i 0
end HX

namespace HX
open Go Go.Proofs CX

def wI (r : List D) : Int := (r.getD 0 .nil).int
theorem gt_wI (l : Rows) (q : Nat) : (gt l q 0).int = wI (l.getD q []) := rfl
theorem drop_row {l : Rows} {q : Nat} (h : q < l.length) : l.drop q = l.getD q [] :: l.drop (q + 1) := by
  rw [List.drop_eq_getElem_cons h, List.getD_eq_getElem?_getD, List.getElem?_eq_getElem h]; rfl
theorem row_mem {l : Rows} {q : Nat} (h : q < l.length) : l.getD q [] ∈ l := by
  rw [List.getD_eq_getElem?_getD, List.getElem?_eq_getElem h]; exact List.getElem_mem h
theorem mem_row {l : Rows} {r : List D} (h : r ∈ l) : ∃ q, q < l.length ∧ l.getD q [] = r := by
  obtain ⟨q, hq, e⟩ := List.getElem_of_mem h
  exact ⟨q, hq, by rw [List.getD_eq_getElem?_getD, List.getElem?_eq_getElem hq]; exact e⟩
theorem drop_end {l : Rows} {q : Nat} (h : ¬ (q : Int) < ((l.length : Nat) : Int)) : l.drop q = [] := List.drop_of_length_le (by omega)
theorem getD_set {l : Rows} {q i : Nat} {x : List D} (h : q < l.length) : (l.set q x).getD i [] = if i = q then x else l.getD i [] := by
  rw [List.getD_eq_getElem?_getD, List.getElem?_set, List.getD_eq_getElem?_getD]
  by_cases e : q = i
  · subst e; rw [if_pos rfl, if_pos rfl, if_pos h]; rfl
  · rw [if_neg e, if_neg (fun h => e h.symm)]
theorem getD_rep {n q : Nat} {x : List D} (h : q < n) : (List.replicate n x).getD q [] = x := by
  rw [List.getD_eq_getElem?_getD, List.getElem?_replicate, if_pos h]; rfl

def chkS (W H R : Int) : Int := if (1 ≤ W ∧ W ≤ 8) ∧ (1 ≤ H ∧ H ≤ 8) ∧ 1 ≤ R ∧ R ≤ 64 then 0 else 3
theorem chkS_0 {W H R : Int} (h : chkS W H R = 0) : (1 ≤ W ∧ W ≤ 8) ∧ (1 ≤ H ∧ H ≤ 8) ∧ 1 ≤ R ∧ R ≤ 64 := by
  unfold chkS at h
  split at h
  · assumption
  · cases h
theorem chkS_ne {W H R : Int} (h : ¬ chkS W H R = 0) : chkS W H R = 3 := by
  unfold chkS at h ⊢
  split at h
  · exact absurd rfl h
  · rw [if_neg (by assumption)]

theorem wh_bd {W H : Int} (h1 : 1 ≤ W) (h2 : W ≤ 8) (h3 : 1 ≤ H) (h4 : H ≤ 8) : 1 ≤ W * H ∧ W * H ≤ 64 := by
  have e1 := Int.mul_le_mul_of_nonneg_right h2 (show 0 ≤ H by omega)
  have e2 := Int.mul_le_mul_of_nonneg_right h1 (show 0 ≤ H by omega)
  omega

theorem xy {W H r : Int} (hW : 1 ≤ W) (h0 : 0 ≤ r) (hr : r < W * H) : (0 ≤ Int.tmod r W ∧ Int.tmod r W < W) ∧ (0 ≤ Int.tdiv r W ∧ Int.tdiv r W < H) ∧ Int.tdiv r W * W + Int.tmod r W = r := by
  rw [Int.tmod_eq_emod_of_nonneg h0, Int.tdiv_eq_ediv_of_nonneg h0]
  refine ⟨⟨Int.emod_nonneg _ (by omega), Int.emod_lt_of_pos _ (by omega)⟩, ⟨Int.ediv_nonneg h0 (by omega), ?_⟩, Int.mul_comm W _ ▸ Int.mul_ediv_add_emod r W⟩
  exact Int.ediv_lt_of_lt_mul (by omega) (by rw [Int.mul_comm]; exact hr)
theorem xy_of {W x y : Int} (hx : 0 ≤ x) (hxW : x < W) (hy : 0 ≤ y) : Int.tmod (y * W + x) W = x ∧ Int.tdiv (y * W + x) W = y := by
  have h0 : 0 ≤ y * W + x := by
    have := Int.mul_nonneg hy (show 0 ≤ W by omega)
    omega
  rw [Int.tmod_eq_emod_of_nonneg h0, Int.tdiv_eq_ediv_of_nonneg h0]
  refine ⟨?_, ?_⟩
  · rw [Int.add_comm, Int.add_mul_emod_self_right]; exact Int.emod_eq_of_lt hx hxW
  · rw [Int.add_comm, Int.add_mul_ediv_right _ _ (by omega), Int.ediv_eq_zero_of_lt hx hxW]; omega
end HX

namespace HX
open Go Go.Proofs CX

def turnI (W r t : Int) : Int := if Int.tmod r W < Int.tmod t W then 1 else if Int.tmod t W < Int.tmod r W then 4 else if Int.tdiv r W < Int.tdiv t W then 2 else if Int.tdiv t W < Int.tdiv r W then 8 else 16
def stepI (W r t : Int) : Int := if Int.tmod r W < Int.tmod t W then r + 1 else if Int.tmod t W < Int.tmod r W then r - 1 else if Int.tdiv r W < Int.tdiv t W then r + W else if Int.tdiv t W < Int.tdiv r W then r - W else r
def absI (x : Int) : Int := if x < 0 then -x else x
def dstI (W r t : Int) : Int := absI (Int.tmod r W - Int.tmod t W) + absI (Int.tdiv r W - Int.tdiv t W)

theorem coord {W H r x y : Int} (hx : 0 ≤ x) (hxW : x < W) (hy : 0 ≤ y) (hyH : y < H) (e : r = y * W + x) : (Int.tmod r W = x ∧ Int.tdiv r W = y) ∧ 0 ≤ r ∧ r < W * H := by
  subst e
  refine ⟨xy_of hx hxW hy, ?_, ?_⟩
  · have := Int.mul_nonneg hy (show 0 ≤ W by omega); omega
  · have := Int.mul_le_mul_of_nonneg_right (show y + 1 ≤ H by omega) (show 0 ≤ W by omega)
    rw [Int.add_mul, Int.one_mul, Int.mul_comm H W] at this; omega

theorem step_spec {W H r t : Int} (hW : 1 ≤ W) (r0 : 0 ≤ r) (r1 : r < W * H) (t0 : 0 ≤ t) (t1 : t < W * H) (hne : r ≠ t) :
    (0 ≤ stepI W r t ∧ stepI W r t < W * H) ∧ dstI W (stepI W r t) t + 1 = dstI W r t := by
  obtain ⟨⟨a1, a2⟩, ⟨a3, a4⟩, a5⟩ := xy hW r0 r1
  obtain ⟨⟨b1, b2⟩, ⟨b3, b4⟩, b5⟩ := xy hW t0 t1
  unfold stepI
  split
  · obtain ⟨⟨c1, c2⟩, c3, c4⟩ := coord (W := W) (H := H) (r := r + 1) (x := Int.tmod r W + 1) (y := Int.tdiv r W) (by omega) (by omega) a3 a4 (by omega)
    refine ⟨⟨c3, c4⟩, ?_⟩
    unfold dstI absI
    rw [c1, c2]
    repeat' split
    all_goals omega
  split
  · obtain ⟨⟨c1, c2⟩, c3, c4⟩ := coord (W := W) (H := H) (r := r - 1) (x := Int.tmod r W - 1) (y := Int.tdiv r W) (by omega) (by omega) a3 a4 (by omega)
    refine ⟨⟨c3, c4⟩, ?_⟩
    unfold dstI absI
    rw [c1, c2]
    repeat' split
    all_goals omega
  split
  · obtain ⟨⟨c1, c2⟩, c3, c4⟩ := coord (W := W) (H := H) (r := r + W) (x := Int.tmod r W) (y := Int.tdiv r W + 1) (by omega) (by omega) (by omega) (by omega) (by rw [Int.add_mul, Int.one_mul]; omega)
    refine ⟨⟨c3, c4⟩, ?_⟩
    unfold dstI absI
    rw [c1, c2]
    repeat' split
    all_goals omega
  split
  · obtain ⟨⟨c1, c2⟩, c3, c4⟩ := coord (W := W) (H := H) (r := r - W) (x := Int.tmod r W) (y := Int.tdiv r W - 1) (by omega) (by omega) (by omega) (by omega) (by rw [Int.sub_mul, Int.one_mul]; omega)
    refine ⟨⟨c3, c4⟩, ?_⟩
    unfold dstI absI
    rw [c1, c2]
    repeat' split
    all_goals omega
  · exfalso
    apply hne
    rw [← a5, ← b5, show Int.tdiv r W = Int.tdiv t W by omega, show Int.tmod r W = Int.tmod t W by omega]

theorem dst_nonneg (W r t : Int) : 0 ≤ dstI W r t := by
  unfold dstI absI; (repeat' split) <;> omega
theorem dst_self (W t : Int) : dstI W t t = 0 := by unfold dstI absI; (repeat' split) <;> omega
theorem dst_bd {W H r t : Int} (hW : 1 ≤ W ∧ W ≤ 8) (hH : 1 ≤ H ∧ H ≤ 8) (r0 : 0 ≤ r) (r1 : r < W * H) (t0 : 0 ≤ t) (t1 : t < W * H) : dstI W r t ≤ 14 := by
  have a := xy (H := H) hW.1 r0 r1
  have b := xy (H := H) hW.1 t0 t1
  unfold dstI absI; (repeat' split) <;> omega

def rtF (W t : Int) : Nat → Int → Rows
  | 0, r => [[.i r]]
  | n + 1, r => [.i r] :: rtF W t n (stepI W r t)
def rtL (W r t : Int) : Rows := rtF W t (dstI W r t).toNat r

theorem rtL_end (W t : Int) : rtL W t t = [[.i t]] := by rw [rtL, dst_self]; rfl
theorem rtL_step {W H r t : Int} (hW : 1 ≤ W) (r0 : 0 ≤ r) (r1 : r < W * H) (t0 : 0 ≤ t) (t1 : t < W * H) (hne : r ≠ t) : rtL W r t = [.i r] :: rtL W (stepI W r t) t := by
  have h := (step_spec (H := H) hW r0 r1 t0 t1 hne).2
  have hn := dst_nonneg W (stepI W r t) t
  rw [rtL, rtL, show (dstI W r t).toNat = (dstI W (stepI W r t) t).toNat + 1 by omega]
  rfl
theorem rtF_len (W t : Int) : ∀ (n : Nat) (r : Int), (rtF W t n r).length = n + 1
  | 0, _ => rfl
  | n + 1, r => by simp [rtF, rtF_len W t n]
theorem rtL_len (W r t : Int) : (((rtL W r t).length : Nat) : Int) = dstI W r t + 1 := by
  have := dst_nonneg W r t
  rw [rtL, rtF_len]; omega
end HX

namespace HX
open Go Go.Proofs CX

def inM (W H : Int) (l : Rows) : Prop := ∀ r ∈ l, 0 ≤ wI r ∧ wI r < W * H
open Classical in
noncomputable def knE (W H R : Int) (l : Rows) : Int := if chkS W H R = 0 then (if inM W H l then 0 else 4) else 3

theorem law49 {pre : Nat → List (List D) → Prop} {fn : Nat → List (List D) → Nat → Nat → D} (hp17 : ∀ x, pre 17 x) (hf17 : ∀ a b c, fn 17 [[.i a, .i b, .i c]] 0 0 = .i (chkS a b c))
    {a0_0 a0_1 a0_2 : Int} {a1 : Rows} (hlen : a1.length ≤ 9223372036854775807) {R : Nat → Nat → D} (hR : R 0 0 = .i (knE a0_0 a0_1 a0_2 a1)) :
    V49 pre fn a0_0 a0_1 a0_2 a1 R (fun _ i => ∃ r : Nat, i = r ∧ r ≤ a1.length ∧ ∀ q < r, 0 ≤ wI (a1.getD q []) ∧ wI (a1.getD q []) < a0_0 * a0_1) (fun _ i => (a1.length - i).toNat) := by
  have hi : ∀ n : Int, (D.i n).int = n := fun _ => rfl
  constructor
  all_goals (try (intro x0 i hI; obtain ⟨r, hx, hr, hq⟩ := hI; subst hx))
  all_goals (intros; (try simp only [hf17, hp17, hi, Int.toNat_natCast, gt_wI] at *))
  case g1 => rename_i h; rw [hR, knE, if_neg h, chkS_ne h]
  all_goals (have hc := ‹chkS a0_0 a0_1 a0_2 = 0›; obtain ⟨c1, c2, c3⟩ := chkS_0 hc; have hwh := wh_bd c1.1 c1.2 c2.1 c2.2)
  all_goals (try omega)
  case i0 => exact ⟨0, by omega, by omega, fun q hq => by omega⟩
  case g6 =>
    have hn : ¬ inM a0_0 a0_1 a1 := fun h => by have := (h _ (row_mem (l := a1) (q := r) (by omega))).1; omega
    rw [hR, knE, if_pos hc, if_neg hn]
  case g8 =>
    have hn : ¬ inM a0_0 a0_1 a1 := fun h => by have := (h _ (row_mem (l := a1) (q := r) (by omega))).2; omega
    rw [hR, knE, if_pos hc, if_neg hn]
  case n10 =>
    refine ⟨⟨r + 1, by omega, by omega, fun q h => ?_⟩, by omega⟩
    by_cases e : q = r
    · subst e; omega
    · exact hq q (by omega)
  case g11 =>
    have hn : inM a0_0 a0_1 a1 := fun x hx => by obtain ⟨q, hq1, rfl⟩ := mem_row hx; exact hq q (by omega)
    rw [hR, knE, if_pos hc, if_pos hn]

theorem law50 {a0_0 a0_1 a0_2 a1 : Int} (h : (1 ≤ a0_0 ∧ a0_0 ≤ 8) ∧ 0 ≤ a1 ∧ a1 ≤ 64) {R : Nat → Nat → D} (hR0 : R 0 0 = .i (Int.tmod a1 a0_0)) (hR1 : R 0 1 = .i (Int.tdiv a1 a0_0)) : V50 a0_0 a0_1 a0_2 a1 R := by
  have hxy := xy (W := a0_0) (H := a1 + 1) (r := a1) h.1.1 h.2.1 (by have := Int.mul_le_mul_of_nonneg_right h.1.1 (show 0 ≤ a1 + 1 by omega); omega)
  constructor
  all_goals first
    | exact hR0
    | exact hR1
    | omega

theorem law53 {pre : Nat → List (List D) → Prop} {fn : Nat → List (List D) → Nat → Nat → D} (hp18 : ∀ x, pre 18 x) (hf18 : ∀ a b c, fn 18 [[.i a, .i b, .i c]] 0 0 = .i (chkS a b c))
    {a0_0 a0_1 a0_2 a1 a2 : Int} {R : Nat → Nat → D} (hR : R 0 0 = .i (knE a0_0 a0_1 a0_2 [[.i a1], [.i a2]])) : V53 pre fn a0_0 a0_1 a0_2 a1 a2 R := by
  have hi : ∀ n : Int, (D.i n).int = n := fun _ => rfl
  have hin : inM a0_0 a0_1 [[.i a1], [.i a2]] ↔ (0 ≤ a1 ∧ a1 < a0_0 * a0_1) ∧ 0 ≤ a2 ∧ a2 < a0_0 * a0_1 := by
    constructor
    · intro h; exact ⟨h [.i a1] (by simp), h [.i a2] (by simp)⟩
    · rintro ⟨h1, h2⟩ r hr
      simp only [List.mem_cons, List.not_mem_nil, or_false] at hr
      rcases hr with rfl | rfl
      · exact h1
      · exact h2
  constructor
  all_goals (intros; (try simp only [hf18, hp18, hi] at *))
  case g1 => rename_i h; rw [hR, knE, if_neg h, chkS_ne h]
  all_goals (have hc := ‹chkS a0_0 a0_1 a0_2 = 0›; obtain ⟨c1, c2, c3⟩ := chkS_0 hc; have hwh := wh_bd c1.1 c1.2 c2.1 c2.2)
  all_goals (try omega)
  all_goals (rw [hR, knE, if_pos hc])
  all_goals first
    | rw [if_neg (by rw [hin]; omega)]
    | rw [if_pos (by rw [hin]; omega)]

def ovI (W r o : Int) : Int := if o = 1 then r + 1 else if o = 2 then r + W else if o = 4 then r - 1 else r - W
def legO (W H r o : Int) : Prop := (o = 1 ∧ Int.tmod r W + 1 < W) ∨ (o = 2 ∧ Int.tdiv r W + 1 < H) ∨ (o = 4 ∧ 0 < Int.tmod r W) ∨ (o = 8 ∧ 0 < Int.tdiv r W)
def okM (W H r : Int) : Prop := (1 ≤ W ∧ W ≤ 8) ∧ (1 ≤ H ∧ H ≤ 8) ∧ 0 ≤ r ∧ r < W * H

theorem turn_leg {W H r t : Int} (hr : okM W H r) (ht : okM W H t) (hne : r ≠ t) : legO W H r (turnI W r t) ∧ ovI W r (turnI W r t) = stepI W r t := by
  obtain ⟨w, h, r0, r1⟩ := hr
  obtain ⟨⟨a1, a2⟩, ⟨a3, a4⟩, a5⟩ := xy w.1 r0 r1
  obtain ⟨⟨b1, b2⟩, ⟨b3, b4⟩, b5⟩ := xy w.1 ht.2.2.1 ht.2.2.2
  unfold turnI stepI ovI legO
  split
  · exact ⟨by omega, by rw [if_pos rfl]⟩
  split
  · exact ⟨by omega, by rw [if_neg (by omega), if_neg (by omega), if_pos rfl]⟩
  split
  · exact ⟨by omega, by rw [if_neg (by omega), if_pos rfl]⟩
  split
  · exact ⟨by omega, by rw [if_neg (by omega), if_neg (by omega), if_neg (by omega)]⟩
  · exfalso
    apply hne
    rw [← a5, ← b5, show Int.tdiv r W = Int.tdiv t W by omega, show Int.tmod r W = Int.tmod t W by omega]

theorem law55 {a0_0 a0_1 a0_2 a1 a2 : Int} (h1 : okM a0_0 a0_1 a1) (h2 : okM a0_0 a0_1 a2) {R : Nat → Nat → D} (hR : R 0 0 = .i (turnI a0_0 a1 a2)) : V55 a0_0 a0_1 a0_2 a1 a2 R := by
  obtain ⟨w, h, r0, r1⟩ := h1
  obtain ⟨⟨x1, x2⟩, ⟨x3, x4⟩, x5⟩ := xy w.1 r0 r1
  obtain ⟨⟨b1, b2⟩, ⟨b3, b4⟩, b5⟩ := xy w.1 h2.2.2.1 h2.2.2.2
  have hwh := wh_bd w.1 w.2 h.1 h.2
  constructor
  all_goals (intros; (try omega))
  all_goals (rw [hR, turnI])
  · rw [if_pos (by assumption)]
  · rw [if_neg (by assumption), if_pos (by assumption)]
  · rw [if_neg (by assumption), if_neg (by assumption), if_pos (by assumption)]
  · rw [if_neg (by assumption), if_neg (by assumption), if_neg (by assumption), if_pos (by assumption)]
  · rw [if_neg (by assumption), if_neg (by assumption), if_neg (by assumption), if_neg (by assumption)]
end HX

namespace HX
open Go Go.Proofs CX

theorem law54 {a0_0 a0_1 a0_2 a1 a2 : Int} (h1 : okM a0_0 a0_1 a1) (h2 : legO a0_0 a0_1 a1 a2) {R : Nat → Nat → D} (hR : R 0 0 = .i (ovI a0_0 a1 a2)) : V54 a0_0 a0_1 a0_2 a1 a2 R := by
  obtain ⟨w, h, r0, r1⟩ := h1
  obtain ⟨⟨x1, x2⟩, ⟨x3, x4⟩, x5⟩ := xy w.1 r0 r1
  have hwh := wh_bd w.1 w.2 h.1 h.2
  unfold legO at h2
  constructor
  all_goals (intros; (try omega))
  all_goals (rw [hR, ovI]; congr 1; (repeat' split))
  all_goals omega

theorem law88 {a0_0 a0_1 a0_2 a1 a2 : Int} (h1 : okM a0_0 a0_1 a1) (h2 : legO a0_0 a0_1 a1 a2) {R : Nat → Nat → D} (hR0 : R 0 0 = .i (ovI a0_0 a1 a2)) (hR1 : R 1 0 = .b true) : V88 a0_0 a0_1 a0_2 a1 a2 R := by
  obtain ⟨w, h, r0, r1⟩ := h1
  obtain ⟨⟨x1, x2⟩, ⟨x3, x4⟩, x5⟩ := xy w.1 r0 r1
  have hwh := wh_bd w.1 w.2 h.1 h.2
  have e1 : (Int.tdiv a1 a0_0 + 1) * a0_0 = Int.tdiv a1 a0_0 * a0_0 + a0_0 := by rw [Int.add_mul, Int.one_mul]
  have e2 : (Int.tdiv a1 a0_0 - 1) * a0_0 = Int.tdiv a1 a0_0 * a0_0 - a0_0 := by rw [Int.sub_mul, Int.one_mul]
  unfold legO at h2
  constructor
  all_goals (intros; (try omega))
  all_goals first
    | (rw [hR0, ovI]; congr 1; (repeat' split) <;> omega)
    | (rw [hR1, decide_eq_true (by omega)])

theorem law56 {pre : Nat → List (List D) → Prop} {fn : Nat → List (List D) → Nat → Nat → D} (hp50 : ∀ a b c k, (1 ≤ a ∧ a ≤ 8) → 0 ≤ k → k ≤ 64 → pre 50 [[.i a, .i b, .i c], [.i k]])
    (hf50 : ∀ a b c k, fn 50 [[.i a, .i b, .i c], [.i k]] 0 0 = .i (Int.tmod k a)) (hf50' : ∀ a b c k, fn 50 [[.i a, .i b, .i c], [.i k]] 0 1 = .i (Int.tdiv k a))
    {a0_0 a0_1 a0_2 a1 a2 : Int} (h1 : okM a0_0 a0_1 a1) (h2 : okM a0_0 a0_1 a2) {R : Nat → Nat → D} (hR : R 0 0 = .i (turnI a0_0 a1 a2)) : V56 pre fn a0_0 a0_1 a0_2 a1 a2 R := by
  obtain ⟨w, h, r0, r1⟩ := h1
  have hwh := wh_bd w.1 w.2 h.1 h.2
  have hi : ∀ n : Int, (D.i n).int = n := fun _ => rfl
  constructor
  case g0 => exact hp50 _ _ _ _ w r0 (by omega)
  case g1 => exact hp50 _ _ _ _ w h2.2.2.1 (by have := h2.2.2.2; omega)
  all_goals (intros; (try simp only [hf50, hf50', hi] at *))
  all_goals (rw [hR, turnI])
  case g2 => rw [if_pos (by assumption)]
  case g3 => rw [if_neg (by assumption), if_pos (by assumption)]
  case g4 => rw [if_neg (by assumption), if_neg (by assumption), if_pos (by assumption)]
  case g5 => rw [if_neg (by assumption), if_neg (by assumption), if_neg (by assumption), if_pos (by assumption)]
  case g6 => rw [if_neg (by assumption), if_neg (by assumption), if_neg (by assumption), if_neg (by assumption)]

theorem knE_0 {W H R a b : Int} (h : knE W H R [[.i a], [.i b]] = 0) : okM W H a ∧ okM W H b := by
  unfold knE at h
  split at h
  · rename_i hc
    obtain ⟨c1, c2, c3⟩ := chkS_0 hc
    split at h
    · rename_i hin
      have h1 := hin [.i a] (by simp)
      have h2 := hin [.i b] (by simp)
      exact ⟨⟨c1, c2, h1⟩, c1, c2, h2⟩
    · cases h
  · cases h

open Classical in
noncomputable def dsV (W H R a b : Int) : Int := if knE W H R [[.i a], [.i b]] = 0 then dstI W a b else 0
open Classical in
noncomputable def rtV (W H R a b : Int) : Rows := if knE W H R [[.i a], [.i b]] = 0 then rtL W a b else []

theorem law15 {pre : Nat → List (List D) → Prop} {fn : Nat → List (List D) → Nat → Nat → D} (hp49 : ∀ x, pre 49 x) (hf49 : ∀ a b c l, fn 49 [[.i a, .i b, .i c], [.l l]] 0 0 = .i (knE a b c l))
    (hp50 : ∀ a b c k, (1 ≤ a ∧ a ≤ 8) → 0 ≤ k → k ≤ 64 → pre 50 [[.i a, .i b, .i c], [.i k]])
    (hf50 : ∀ a b c k, fn 50 [[.i a, .i b, .i c], [.i k]] 0 0 = .i (Int.tmod k a)) (hf50' : ∀ a b c k, fn 50 [[.i a, .i b, .i c], [.i k]] 0 1 = .i (Int.tdiv k a))
    {a0_0 a0_1 a0_2 a1 a2 : Int} {R : Nat → Nat → D} (hR0 : R 0 0 = .i (dsV a0_0 a0_1 a0_2 a1 a2)) (hR1 : R 1 0 = .i (knE a0_0 a0_1 a0_2 [[.i a1], [.i a2]])) : V15 pre fn a0_0 a0_1 a0_2 a1 a2 R := by
  have hi : ∀ n : Int, (D.i n).int = n := fun _ => rfl
  constructor
  all_goals (intros; (try simp only [hf49, hp49, hf50, hf50', hi] at *))
  case g1 => rename_i h; rw [hR0, dsV, if_neg h]
  case g2 => exact hR1
  all_goals (have hk := ‹knE a0_0 a0_1 a0_2 [[.i a1], [.i a2]] = 0›; obtain ⟨o1, o2⟩ := knE_0 hk; obtain ⟨w, h, r0, r1⟩ := o1; have hwh := wh_bd w.1 w.2 h.1 h.2; have o3 := o2.2.2)
  case g3 => exact hp50 _ _ _ _ w r0 (by omega)
  case g4 => exact hp50 _ _ _ _ w o3.1 (by omega)
  all_goals (have x1 := xy w.1 r0 r1; have x2 := xy w.1 o3.1 o3.2)
  all_goals (try omega)
  all_goals (try (simp only [mxI_eq] at *; omega))
  case g10 =>
    rw [hR0, dsV, if_pos hk, dstI]
    simp only [mxI_eq, absI]
    congr 1
    (repeat' split) <;> omega
  case g11 => rw [hR1, hk]

theorem law16 {pre : Nat → List (List D) → Prop} {fn : Nat → List (List D) → Nat → Nat → D} (hp20 : ∀ x, pre 20 x) (hf20 : ∀ a b c r t, fn 20 [[.i a, .i b, .i c], [.i r], [.i t]] 0 0 = .l (rtV a b c r t))
    (hf20' : ∀ a b c r t, fn 20 [[.i a, .i b, .i c], [.i r], [.i t]] 1 0 = .i (knE a b c [[.i r], [.i t]]))
    {a0_0 a0_1 a0_2 a1 a2 : Int} {R : Nat → Nat → D} (hR0 : R 0 0 = .i (dsV a0_0 a0_1 a0_2 a1 a2)) (hR1 : R 1 0 = .i (knE a0_0 a0_1 a0_2 [[.i a1], [.i a2]])) : V16 pre fn a0_0 a0_1 a0_2 a1 a2 R := by
  have hi : ∀ n : Int, (D.i n).int = n := fun _ => rfl
  have hr : ∀ n : Rows, (D.l n).rows = n := fun _ => rfl
  constructor
  all_goals (intros; (try simp only [hf20, hf20', hp20, hi, hr] at *))
  case g1 => rename_i h; rw [hR0, dsV, if_neg h]
  case g2 => exact hR1
  all_goals (have hk := ‹knE a0_0 a0_1 a0_2 [[.i a1], [.i a2]] = 0›; obtain ⟨o1, o2⟩ := knE_0 hk)
  all_goals (have hd := dst_bd o1.1 o1.2.1 o1.2.2.1 o1.2.2.2 o2.2.2.1 o2.2.2.2; have hn := dst_nonneg a0_0 a1 a2)
  all_goals (have hl := rtL_len a0_0 a1 a2; have hv : rtV a0_0 a0_1 a0_2 a1 a2 = rtL a0_0 a1 a2 := by rw [rtV, if_pos hk])
  all_goals (try rw [hv])
  all_goals (try omega)
  case g4 => rw [hR0, dsV, if_pos hk]; congr 1; omega
  case g5 => rw [hR1, hk]

theorem law20 {pre : Nat → List (List D) → Prop} {fn : Nat → List (List D) → Nat → Nat → D} (hp53 : ∀ x, pre 53 x) (hf53 : ∀ a b c r t, fn 53 [[.i a, .i b, .i c], [.i r], [.i t]] 0 0 = .i (knE a b c [[.i r], [.i t]]))
    (hp55 : ∀ a b c r t, okM a b r → okM a b t → pre 55 [[.i a, .i b, .i c], [.i r], [.i t]]) (hf55 : ∀ a b c r t, fn 55 [[.i a, .i b, .i c], [.i r], [.i t]] 0 0 = .i (turnI a r t))
    (hp54 : ∀ a b c r o, okM a b r → legO a b r o → pre 54 [[.i a, .i b, .i c], [.i r], [.i o]]) (hf54 : ∀ a b c r o, fn 54 [[.i a, .i b, .i c], [.i r], [.i o]] 0 0 = .i (ovI a r o))
    {a0_0 a0_1 a0_2 a1 a2 : Int} {R : Nat → Nat → D} (hR0 : R 0 0 = .l (rtV a0_0 a0_1 a0_2 a1 a2)) (hR1 : R 1 0 = .i (knE a0_0 a0_1 a0_2 [[.i a1], [.i a2]])) :
    V20 pre fn a0_0 a0_1 a0_2 a1 a2 R (fun r o => okM a0_0 a0_1 r ∧ ∃ p : Rows, o = p ++ [[.i r]] ∧ p ++ rtL a0_0 r a2 = rtL a0_0 a1 a2) (fun r _ => (dstI a0_0 r a2).toNat) := by
  have hi : ∀ n : Int, (D.i n).int = n := fun _ => rfl
  constructor
  all_goals (try (intro r o hI; obtain ⟨hr, p, ho, hp⟩ := hI; subst ho))
  all_goals (intros; (try simp only [hf53, hf54, hf55, hp53, hi] at *))
  case g1 => rename_i h; rw [hR0, rtV, if_neg h]
  case g2 => exact hR1
  all_goals (have hk := ‹knE a0_0 a0_1 a0_2 [[.i a1], [.i a2]] = 0›; obtain ⟨o1, o2⟩ := knE_0 hk)
  case i0 => exact ⟨o1, [], rfl, rfl⟩
  case g8 =>
    have e := ‹r = a2›
    subst e
    rw [hR0, rtV, if_pos hk, ← hp, rtL_end]
  case g9 => rw [hR1, hk]
  all_goals (have hne := ‹¬ r = a2›; have htl := turn_leg hr o2 hne; obtain ⟨l1, l2⟩ := htl)
  case g4 => exact hp55 _ _ _ _ _ hr o2
  case g5 => exact hp54 _ _ _ _ _ hr l1
  all_goals (have hs := step_spec (H := a0_1) hr.1.1 hr.2.2.1 hr.2.2.2 o2.2.2.1 o2.2.2.2 hne; have hn := dst_nonneg a0_0 (stepI a0_0 r a2) a2)
  all_goals (have hlen := congrArg List.length hp; have hrl := rtL_len a0_0 r a2; have hrl1 := rtL_len a0_0 a1 a2; have hd1 := dst_bd o1.1 o1.2.1 o1.2.2.1 o1.2.2.2 o2.2.2.1 o2.2.2.2; rw [List.length_append] at hlen)
  case g6 => simp only [List.length_append, List.length_cons, List.length_nil] at *; omega
  case n7 =>
    rw [l2]
    refine ⟨⟨⟨hr.1, hr.2.1, hs.1⟩, p ++ [[.i r]], rfl, ?_⟩, by omega⟩
    rw [← hp, rtL_step (H := a0_1) hr.1.1 hr.2.2.1 hr.2.2.2 o2.2.2.1 o2.2.2.2 hne, List.append_assoc]
    rfl
end HX

namespace HX
open Go Go.Proofs CX

theorem law19 {pre : Nat → List (List D) → Prop} {fn : Nat → List (List D) → Nat → Nat → D} (hp49 : ∀ x, pre 49 x) (hf49 : ∀ a b c l, fn 49 [[.i a, .i b, .i c], [.l l]] 0 0 = .i (knE a b c l))
    (hp56 : ∀ a b c r t, okM a b r → okM a b t → pre 56 [[.i a, .i b, .i c], [.i r], [.i t]]) (hf56 : ∀ a b c r t, fn 56 [[.i a, .i b, .i c], [.i r], [.i t]] 0 0 = .i (turnI a r t))
    (hp88 : ∀ a b c r o, okM a b r → legO a b r o → pre 88 [[.i a, .i b, .i c], [.i r], [.i o]]) (hf88 : ∀ a b c r o, fn 88 [[.i a, .i b, .i c], [.i r], [.i o]] 0 0 = .i (ovI a r o))
    {a0_0 a0_1 a0_2 a1 a2 : Int} {R : Nat → Nat → D} (hR0 : R 0 0 = .l (rtV a0_0 a0_1 a0_2 a1 a2)) (hR1 : R 1 0 = .i (knE a0_0 a0_1 a0_2 [[.i a1], [.i a2]])) :
    V19 pre fn a0_0 a0_1 a0_2 a1 a2 R (fun p r => okM a0_0 a0_1 r ∧ p ++ rtL a0_0 r a2 = rtL a0_0 a1 a2) (fun _ r => (dstI a0_0 r a2).toNat) := by
  have hi : ∀ n : Int, (D.i n).int = n := fun _ => rfl
  constructor
  all_goals (try (intro p r hI; obtain ⟨hr, hp⟩ := hI))
  all_goals (intros; (try simp only [hf49, hf56, hf88, hp49, hi] at *))
  case g1 => rename_i h; rw [hR0, rtV, if_neg h]
  case g2 => exact hR1
  all_goals (have hk := ‹knE a0_0 a0_1 a0_2 [[.i a1], [.i a2]] = 0›; obtain ⟨o1, o2⟩ := knE_0 hk)
  case i0 => exact ⟨o1, rfl⟩
  case g8 =>
    have e := ‹r = a2›
    subst e
    rw [hR0, rtV, if_pos hk, ← hp, rtL_end]
  case g9 => rw [hR1, hk]
  case g4 =>
    have hlen := congrArg List.length hp
    have hrl1 := rtL_len a0_0 a1 a2
    have hd1 := dst_bd o1.1 o1.2.1 o1.2.2.1 o1.2.2.2 o2.2.2.1 o2.2.2.2
    simp only [List.length_append, List.length_cons, List.length_nil] at *
    omega
  all_goals (have hne := ‹¬ r = a2›; have htl := turn_leg hr o2 hne; obtain ⟨l1, l2⟩ := htl)
  case g5 => exact hp56 _ _ _ _ _ hr o2
  case g6 => exact hp88 _ _ _ _ _ hr l1
  all_goals (have hs := step_spec (H := a0_1) hr.1.1 hr.2.2.1 hr.2.2.2 o2.2.2.1 o2.2.2.2 hne; have hn := dst_nonneg a0_0 (stepI a0_0 r a2) a2)
  case n7 =>
    rw [l2]
    refine ⟨⟨⟨hr.1, hr.2.1, hs.1⟩, ?_⟩, by omega⟩
    rw [← hp, rtL_step (H := a0_1) hr.1.1 hr.2.2.1 hr.2.2.2 o2.2.2.1 o2.2.2.2 hne, List.append_assoc]
    rfl
end HX

namespace HX
open Go Go.Proofs CX

noncomputable def setT (W t : Int) (o : Rows) (r : Int) : Rows := o.set r.toNat [.i (Ar.std.bit .or .i64 (wI (o.getD r.toNat [])) (turnI W r t))]
noncomputable def foldR (W t : Int) (o l : Rows) : Rows := l.foldl (fun o x => setT W t o (wI x)) o
noncomputable def foldT (W s : Int) (o l : Rows) : Rows := l.foldl (fun o x => foldR W (wI x) o (rtL W s (wI x))) o
noncomputable def treL (W n s : Int) (l : Rows) : Rows := foldT W s (List.replicate n.toNat [.i 0]) l
open Classical in
noncomputable def treE (W H R s : Int) (l : Rows) : Int := if knE W H R ([[.i s]] ++ l) = 0 then (if ((l.length : Nat) : Int) = 0 then 2 else 0) else knE W H R ([[.i s]] ++ l)
open Classical in
noncomputable def treV (W H R s : Int) (l : Rows) : Rows := if treE W H R s l = 0 then treL W (W * H) s l else []

theorem setT_len (W t : Int) (o : Rows) (r : Int) : (setT W t o r).length = o.length := by simp [setT]
theorem foldT_cons {W s : Int} {o l : Rows} {q : Nat} (h : q < l.length) : foldT W s o (l.drop q) = foldT W s (foldR W (wI (l.getD q [])) o (rtL W s (wI (l.getD q [])))) (l.drop (q + 1)) := by
  rw [foldT, drop_row h, List.foldl_cons]; rfl
theorem foldR_cons {W t : Int} {o l : Rows} {q : Nat} (h : q < l.length) : foldR W t o (l.drop q) = foldR W t (setT W t o (wI (l.getD q []))) (l.drop (q + 1)) := by
  rw [foldR, drop_row h, List.foldl_cons]; rfl
theorem foldR_len (W t : Int) : ∀ (l o : Rows), (foldR W t o l).length = o.length
  | [], o => rfl
  | x :: l, o => by
    have : foldR W t o (x :: l) = foldR W t (setT W t o (wI x)) l := rfl
    rw [this, foldR_len W t l, setT_len]

theorem rtF_ok {W H t : Int} (ht : okM W H t) : ∀ (n : Nat) (r : Int), okM W H r → (dstI W r t).toNat = n → ∀ x ∈ rtF W t n r, okM W H (wI x)
  | 0, r, hr, _, x, hx => by
    simp only [rtF, List.mem_cons, List.not_mem_nil, or_false] at hx
    subst hx; exact hr
  | n + 1, r, hr, hn, x, hx => by
    simp only [rtF, List.mem_cons] at hx
    have hne : r ≠ t := fun e => by subst e; rw [dst_self] at hn; cases hn
    have hs := step_spec (H := H) hr.1.1 hr.2.2.1 hr.2.2.2 ht.2.2.1 ht.2.2.2 hne
    have h0 := dst_nonneg W (stepI W r t) t
    rcases hx with rfl | hx
    · exact hr
    · exact rtF_ok ht n _ ⟨hr.1, hr.2.1, hs.1⟩ (by omega) x hx

theorem knE_all {W H R s : Int} {l : Rows} (h : knE W H R ([[.i s]] ++ l) = 0) : okM W H s ∧ ∀ x ∈ l, okM W H (wI x) := by
  unfold knE at h
  split at h
  · rename_i hc
    obtain ⟨c1, c2, c3⟩ := chkS_0 hc
    split at h
    · rename_i hin
      exact ⟨⟨c1, c2, hin [.i s] (by simp)⟩, fun x hx => ⟨c1, c2, hin x (by simp [hx])⟩⟩
    · cases h
  · cases h

theorem law22 {pre : Nat → List (List D) → Prop} {fn : Nat → List (List D) → Nat → Nat → D} (hp49 : ∀ x, pre 49 x) (hf49 : ∀ a b c l, fn 49 [[.i a, .i b, .i c], [.l l]] 0 0 = .i (knE a b c l))
    (hp56 : ∀ a b c r t, okM a b r → okM a b t → pre 56 [[.i a, .i b, .i c], [.i r], [.i t]]) (hf56 : ∀ a b c r t, fn 56 [[.i a, .i b, .i c], [.i r], [.i t]] 0 0 = .i (turnI a r t))
    (hp88 : ∀ a b c r o, okM a b r → legO a b r o → pre 88 [[.i a, .i b, .i c], [.i r], [.i o]]) (hf88 : ∀ a b c r o, fn 88 [[.i a, .i b, .i c], [.i r], [.i o]] 0 0 = .i (ovI a r o))
    {a0_0 a0_1 a0_2 a1 : Int} {a2 : Rows} (hlen : a2.length ≤ 100) {R : Nat → Nat → D} (hR0 : R 0 0 = .l (treV a0_0 a0_1 a0_2 a1 a2)) (hR1 : R 1 0 = .i (treE a0_0 a0_1 a0_2 a1 a2)) :
    V22 pre fn a0_0 a0_1 a0_2 a1 a2 R
      (fun i o => ∃ q : Nat, i = q ∧ q ≤ a2.length ∧ ((o.length : Nat) : Int) = a0_0 * a0_1 ∧ foldT a0_0 a1 o (a2.drop q) = treL a0_0 (a0_0 * a0_1) a1 a2) (fun i _ => (a2.length - i).toNat)
      (fun i o o' r => okM a0_0 a0_1 r ∧ ((o'.length : Nat) : Int) = a0_0 * a0_1 ∧ foldR a0_0 (wI (a2.getD i.toNat [])) o' (rtL a0_0 r (wI (a2.getD i.toNat []))) = foldR a0_0 (wI (a2.getD i.toNat [])) o (rtL a0_0 a1 (wI (a2.getD i.toNat []))))
      (fun i _ _ r => (dstI a0_0 r (wI (a2.getD i.toNat []))).toNat) := by
  have hi : ∀ n : Int, (D.i n).int = n := fun _ => rfl
  constructor
  all_goals (try (intro i o hI; obtain ⟨q, hx, hq, hol, ho⟩ := hI; subst hx))
  all_goals (try (intro o' r hI1; obtain ⟨hr, hol', hf⟩ := hI1))
  all_goals (intros; (try simp only [hf49, hf56, hf88, hp49, hi, gt_wI, Int.toNat_natCast] at *))
  case g0 => exact ⟨by simp only [List.length_cons, List.length_nil]; omega, by simp only [List.length_cons, List.length_nil]; omega⟩
  case g2 => rename_i h; rw [hR0, treV, treE, if_neg h, if_neg h]
  case g3 => rename_i h; rw [hR1, treE, if_neg h]
  all_goals (have hk := ‹knE a0_0 a0_1 a0_2 ([[.i a1]] ++ a2) = 0›; obtain ⟨o1, o2⟩ := knE_all hk; have hwh := wh_bd o1.1.1 o1.1.2 o1.2.1.1 o1.2.1.2)
  case g4 => rw [hR0, treV, if_neg (by rw [treE, if_pos hk, if_pos ‹((a2.length : Nat) : Int) = 0›]; decide)]
  case g5 => rw [hR1, treE, if_pos hk, if_pos ‹((a2.length : Nat) : Int) = 0›]
  case i0 => exact ⟨0, rfl, by omega, by simp only [List.length_replicate]; omega, rfl⟩
  all_goals (try (have hE : treE a0_0 a0_1 a0_2 a1 a2 = 0 := by rw [treE, if_pos hk, if_neg (by assumption)]))
  case g29 =>
    rw [hR0, treV, if_pos hE, ← ho, drop_end (by omega)]; rfl
  case g30 => rw [hR1, hE]
  case i1 => exact ⟨o1, hol, trivial⟩
  all_goals (try omega)
  all_goals (try (simp only [show ∀ x : Int, x * Int.ofNat 1 = x * 1 from fun _ => rfl, show ∀ x : Int, x * Int.ofNat 8 = x * 8 from fun _ => rfl]; omega))
  all_goals (have hqr : q < a2.length := by omega)
  all_goals (have ht := o2 _ (row_mem hqr))
  all_goals (generalize htt : wI (a2.getD q []) = t at *)
  all_goals (have hr3 := hr.2.2)
  all_goals (try omega)
  case g20 => exact hp56 _ _ _ _ _ hr ht
  case n28 =>
    have e := ‹r = t›
    refine ⟨⟨q + 1, by omega, by omega, by rw [List.length_set]; exact hol', ?_⟩, by omega⟩
    rw [← ho, foldT_cons hqr, htt, ← hf, e, rtL_end]
    rfl
  all_goals (have hne := ‹¬ r = t›; have htl := turn_leg hr ht hne; obtain ⟨l1, l2⟩ := htl)
  case g24 => exact hp56 _ _ _ _ _ hr ht
  case g25 => exact hp88 _ _ _ _ _ hr l1
  all_goals (have hs := step_spec (H := a0_1) hr.1.1 hr.2.2.1 hr.2.2.2 ht.2.2.1 ht.2.2.2 hne; have hn := dst_nonneg a0_0 (stepI a0_0 r t) t)
  case n26 =>
    rw [l2]
    refine ⟨⟨⟨hr.1, hr.2.1, hs.1⟩, by rw [List.length_set]; exact hol', ?_⟩, by omega⟩
    rw [← hf, rtL_step (H := a0_1) hr.1.1 hr.2.2.1 hr.2.2.2 ht.2.2.1 ht.2.2.2 hne]
    rfl

theorem inM_two {W H s : Int} : inM W H [[.i s], [.i s]] ↔ 0 ≤ s ∧ s < W * H := by
  constructor
  · intro h; exact h [.i s] (by simp)
  · intro h r hr
    simp only [List.mem_cons, List.not_mem_nil, or_false] at hr
    rcases hr with rfl | rfl <;> exact h
theorem inM_cons {W H s : Int} {l : Rows} : inM W H ([[.i s]] ++ l) ↔ (0 ≤ s ∧ s < W * H) ∧ inM W H l := by
  constructor
  · intro h; exact ⟨h [.i s] (by simp), fun r hr => h r (by simp [hr])⟩
  · intro h r hr
    simp only [List.cons_append, List.nil_append, List.mem_cons] at hr
    rcases hr with rfl | hr
    · exact h.1
    · exact h.2 r hr

theorem treE_bad {W H R a : Int} {l : Rows} (hc : chkS W H R = 0) {q : Nat} (hq : q < l.length) (hb : ¬ (0 ≤ wI (l.getD q []) ∧ wI (l.getD q []) < W * H)) : treE W H R a l = 4 := by
  have e : knE W H R ([[.i a]] ++ l) = 4 := by rw [knE, if_pos hc, if_neg (fun hh => hb ((inM_cons.1 hh).2 _ (row_mem hq)))]
  rw [treE, if_neg (by rw [e]; decide), e]
theorem knE_good {W H R a : Int} {l : Rows} (hc : chkS W H R = 0) (ha : okM W H a) {q : Nat} (h : ∀ j < q, 0 ≤ wI (l.getD j []) ∧ wI (l.getD j []) < W * H) (e : q = l.length) : knE W H R ([[.i a]] ++ l) = 0 := by
  rw [knE, if_pos hc, if_pos (inM_cons.2 ⟨ha.2.2, fun r hr => by obtain ⟨j, hj, rfl⟩ := mem_row hr; exact h j (by omega)⟩)]

theorem rtV_ok {W H R a t : Int} (hc : chkS W H R = 0) (ha : okM W H a) (ht : okM W H t) : rtV W H R a t = rtL W a t := by
  have e : inM W H [[.i a], [.i t]] := fun r hr => by
    simp only [List.mem_cons, List.not_mem_nil, or_false] at hr
    rcases hr with rfl | rfl
    · exact ha.2.2
    · exact ht.2.2
  rw [rtV, if_pos (by rw [knE, if_pos hc, if_pos e])]
theorem rtL_15 {W H a t : Int} (ha : okM W H a) (ht : okM W H t) : (rtL W a t).length ≤ 15 := by
  have h1 := rtL_len W a t
  have h2 := dst_bd ha.1 ha.2.1 ha.2.2.1 ha.2.2.2 ht.2.2.1 ht.2.2.2
  omega

theorem law23 {pre : Nat → List (List D) → Prop} {fn : Nat → List (List D) → Nat → Nat → D} (hp53 : ∀ x, pre 53 x) (hf53 : ∀ a b c r t, fn 53 [[.i a, .i b, .i c], [.i r], [.i t]] 0 0 = .i (knE a b c [[.i r], [.i t]]))
    (hp55 : ∀ a b c r t, okM a b r → okM a b t → pre 55 [[.i a, .i b, .i c], [.i r], [.i t]]) (hf55 : ∀ a b c r t, fn 55 [[.i a, .i b, .i c], [.i r], [.i t]] 0 0 = .i (turnI a r t))
    (hp20 : ∀ x, pre 20 x) (hf20 : ∀ a b c r t, fn 20 [[.i a, .i b, .i c], [.i r], [.i t]] 0 0 = .l (rtV a b c r t))
    {a0_0 a0_1 a0_2 a1 : Int} {a2 : Rows} (hlen : a2.length ≤ 9223372036854775807) {R : Nat → Nat → D} (hR0 : R 0 0 = .l (treV a0_0 a0_1 a0_2 a1 a2)) (hR1 : R 1 0 = .i (treE a0_0 a0_1 a0_2 a1 a2)) :
    V23 pre fn a0_0 a0_1 a0_2 a1 a2 R
      (fun i => ∃ q : Nat, i = q ∧ q ≤ a2.length ∧ ∀ j < q, 0 ≤ wI (a2.getD j []) ∧ wI (a2.getD j []) < a0_0 * a0_1) (fun i => (a2.length - i).toNat)
      (fun _ i o => ∃ q : Nat, i = q ∧ q ≤ a2.length ∧ ((o.length : Nat) : Int) = a0_0 * a0_1 ∧ foldT a0_0 a1 o (a2.drop q) = treL a0_0 (a0_0 * a0_1) a1 a2) (fun _ i _ => (a2.length - i).toNat)
      (fun _ i o k o' => ∃ p : Nat, k = p ∧ p ≤ (rtL a0_0 a1 (wI (a2.getD i.toNat []))).length ∧ ((o'.length : Nat) : Int) = a0_0 * a0_1 ∧
        foldR a0_0 (wI (a2.getD i.toNat [])) o' ((rtL a0_0 a1 (wI (a2.getD i.toNat []))).drop p) = foldR a0_0 (wI (a2.getD i.toNat [])) o (rtL a0_0 a1 (wI (a2.getD i.toNat []))))
      (fun _ i _ k _ => ((rtL a0_0 a1 (wI (a2.getD i.toNat []))).length - k).toNat) := by
  have hi : ∀ n : Int, (D.i n).int = n := fun _ => rfl
  have hl : ∀ n : Rows, (D.l n).rows = n := fun _ => rfl
  constructor
  all_goals (try (intro i0 hI0; obtain ⟨q0, hx0, hq0, hin0⟩ := hI0; subst hx0))
  all_goals (try (intro i o hI; obtain ⟨q, hx, hq, hol, ho⟩ := hI; subst hx))
  all_goals (try (intro k o' hI1; obtain ⟨p, hy, hp, hol', hf⟩ := hI1; subst hy))
  all_goals (intros; (try simp only [hf53, hf55, hf20, hp53, hp20, hi, hl, gt_wI, Int.toNat_natCast] at *))
  case g1 =>
    rename_i h
    have h2 : knE a0_0 a0_1 a0_2 ([[.i a1]] ++ a2) ≠ 0 := fun e => h (by
      obtain ⟨c, _⟩ := knE_all e
      have hc : chkS a0_0 a0_1 a0_2 = 0 := by
        unfold knE at e
        split at e
        · assumption
        · cases e
      rw [knE, if_pos hc, if_pos (inM_two.2 c.2.2)])
    rw [hR0, treV, treE, if_neg h2, if_neg h2]
  case g2 =>
    rename_i h
    have e : knE a0_0 a0_1 a0_2 ([[.i a1]] ++ a2) = knE a0_0 a0_1 a0_2 [[.i a1], [.i a1]] := by
      unfold knE at h ⊢
      split
      · rename_i hc
        rw [if_pos hc] at h
        have hn : ¬ inM a0_0 a0_1 [[.i a1], [.i a1]] := fun hh => h (by rw [if_pos hh])
        rw [if_neg hn, if_neg (fun hh => hn (inM_two.2 (inM_cons.1 hh).1))]
      · rfl
    rw [hR1, treE, if_neg (by rw [e]; exact h), e]
  all_goals (have hk := ‹knE a0_0 a0_1 a0_2 [[.i a1], [.i a1]] = 0›; obtain ⟨o1, _⟩ := knE_0 hk; have hwh := wh_bd o1.1.1 o1.1.2 o1.2.1.1 o1.2.1.2)
  all_goals (have hc : chkS a0_0 a0_1 a0_2 = 0 := by
              unfold knE at hk
              split at hk
              · assumption
              · cases hk)
  all_goals (try omega)
  case i0 => exact ⟨0, by omega, by omega, fun j hj => by omega⟩
  case n11 =>
    refine ⟨⟨q0 + 1, by omega, by omega, fun j hj => ?_⟩, by omega⟩
    by_cases e : j = q0
    · subst e; omega
    · exact hin0 j (by omega)
  case g8 => rw [hR0, treV, if_neg (by rw [treE_bad (a := a1) hc (q := q0) (by omega) (by omega)]; decide)]
  case g9 => rw [hR1, treE_bad (a := a1) hc (q := q0) (by omega) (by omega)]
  case g12 => rw [hR0, treV, if_neg (by rw [treE_bad (a := a1) hc (q := q0) (by omega) (by omega)]; decide)]
  case g13 => rw [hR1, treE_bad (a := a1) hc (q := q0) (by omega) (by omega)]
  all_goals (have hK := knE_good hc o1 hin0 (by omega); have o2 := (knE_all hK).2)
  case g14 => rw [hR0, treV, if_neg (by rw [treE, if_pos hK, if_pos (by assumption)]; decide)]
  case g15 => rw [hR1, treE, if_pos hK, if_pos (by assumption)]
  all_goals (have hE : treE a0_0 a0_1 a0_2 a1 a2 = 0 := by rw [treE, if_pos hK, if_neg (by assumption)])
  case i1 => exact ⟨0, rfl, by omega, by simp only [List.length_replicate]; omega, rfl⟩
  case g51 => rw [hR0, treV, if_pos hE, ← ho, drop_end (by omega)]; rfl
  case g52 => rw [hR1, hE]
  all_goals (try (simp only [show ∀ x : Int, x * Int.ofNat 1 = x * 1 from fun _ => rfl, show ∀ x : Int, x * Int.ofNat 8 = x * 8 from fun _ => rfl]; omega))
  all_goals (have hqr : q < a2.length := by omega)
  all_goals (have ht := o2 _ (row_mem hqr))
  all_goals (have hv := rtV_ok (R := a0_2) hc o1 ht; have hL := rtF_ok ht _ _ o1 rfl; have hLn := rtL_15 o1 ht)
  all_goals (generalize rtV a0_0 a0_1 a0_2 a1 (wI (a2.getD q [])) = VV at *)
  all_goals (subst hv)
  case i2 => exact ⟨0, rfl, by omega, hol, rfl⟩
  all_goals (change ∀ x ∈ rtL a0_0 a1 (wI (a2.getD q [])), _ at hL)
  all_goals (generalize hLL : rtL a0_0 a1 (wI (a2.getD q [])) = L at *)
  case n50 =>
    refine ⟨⟨q + 1, by omega, by omega, hol', ?_⟩, by omega⟩
    rw [← ho, foldT_cons hqr, hLL, ← hf, drop_end (l := L) (by omega)]
    rfl
  all_goals (have hpl : p < L.length := by omega)
  all_goals (have hx := hL _ (row_mem hpl); have hx3 := hx.2.2)
  all_goals (try omega)
  case g43 => exact hp55 _ _ _ _ _ hx ht
  case n48 =>
    refine ⟨⟨p + 1, by omega, by omega, by rw [List.length_set]; exact hol', ?_⟩, by omega⟩
    rw [← hf, foldR_cons hpl]
    rfl
  all_goals trace_state
end HX

namespace HX
open Go Go.Proofs CX
structure V17 (a0_0 : Int) (a0_1 : Int) (a0_2 : Int) (R : Nat → Nat → D)  : Prop where
  g0 : ((mnI (mnI a0_0 a0_1) a0_2) < 1) → R 0 0 = D.i 3
  g1 : (¬ (mnI (mnI a0_0 a0_1) a0_2) < 1) → (8 < (mxI a0_0 a0_1)) → R 0 0 = D.i 3
  g2 : (¬ (mnI (mnI a0_0 a0_1) a0_2) < 1) → (¬ 8 < (mxI a0_0 a0_1)) → (64 < a0_2) → R 0 0 = D.i 3
  g3 : (¬ (mnI (mnI a0_0 a0_1) a0_2) < 1) → (¬ 8 < (mxI a0_0 a0_1)) → (¬ 64 < a0_2) → R 0 0 = D.i 0
end HX

namespace HX
open Go Go.Proofs CX
structure V18 (a0_0 : Int) (a0_1 : Int) (a0_2 : Int) (R : Nat → Nat → D)  : Prop where
  g0 : (a0_0 < 1) → R 0 0 = D.i 3
  g1 : (¬ a0_0 < 1) → (8 < a0_0) → R 0 0 = D.i 3
  g2 : (¬ a0_0 < 1) → (¬ 8 < a0_0) → (a0_1 < 1) → R 0 0 = D.i 3
  g3 : (¬ a0_0 < 1) → (¬ 8 < a0_0) → (¬ a0_1 < 1) → (8 < a0_1) → R 0 0 = D.i 3
  g4 : (¬ a0_0 < 1) → (¬ 8 < a0_0) → (¬ a0_1 < 1) → (¬ 8 < a0_1) → (a0_2 < 1) → R 0 0 = D.i 3
  g5 : (¬ a0_0 < 1) → (¬ 8 < a0_0) → (¬ a0_1 < 1) → (¬ 8 < a0_1) → (¬ a0_2 < 1) → (64 < a0_2) → R 0 0 = D.i 3
  g6 : (¬ a0_0 < 1) → (¬ 8 < a0_0) → (¬ a0_1 < 1) → (¬ 8 < a0_1) → (¬ a0_2 < 1) → (¬ 64 < a0_2) → R 0 0 = D.i 0
end HX

namespace HX
open Go Go.Proofs CX
structure V21 (a0 : Rows) (a1 : Rows) (R : Nat → Nat → D) (I0 : Bool → Int → Prop) (m0 : Bool → Int → Nat) : Prop where
  g0 : (¬ (a0.length : Int) = (a1.length : Int)) → R 0 0 = D.b false
  i0 : ((a0.length : Int) = (a1.length : Int)) → I0 false 0
  g2 : ∀ x0_0 x0_1, I0 x0_0 x0_1 → ((a0.length : Int) = (a1.length : Int)) → (x0_1 < (a0.length : Int)) → 0 ≤ x0_1
  g3 : ∀ x0_0 x0_1, I0 x0_0 x0_1 → ((a0.length : Int) = (a1.length : Int)) → (x0_1 < (a0.length : Int)) → x0_1 < (a0.length : Int)
  g4 : ∀ x0_0 x0_1, I0 x0_0 x0_1 → ((a0.length : Int) = (a1.length : Int)) → (x0_1 < (a0.length : Int)) → (((Int.toNat x0_1 : Nat) : Int)) < (a0.length : Int)
  g6 : ∀ x0_0 x0_1, I0 x0_0 x0_1 → ((a0.length : Int) = (a1.length : Int)) → (x0_1 < (a0.length : Int)) → x0_1 < (a1.length : Int)
  g7 : ∀ x0_0 x0_1, I0 x0_0 x0_1 → ((a0.length : Int) = (a1.length : Int)) → (x0_1 < (a0.length : Int)) → (((Int.toNat x0_1 : Nat) : Int)) < (a1.length : Int)
  g8 : ∀ x0_0 x0_1, I0 x0_0 x0_1 → ((a0.length : Int) = (a1.length : Int)) → (x0_1 < (a0.length : Int)) → (¬ (D.int (gt a0 x0_1.toNat 0)) = (D.int (gt a1 x0_1.toNat 0))) → R 0 0 = D.b false
  g9 : ∀ x0_0 x0_1, I0 x0_0 x0_1 → ((a0.length : Int) = (a1.length : Int)) → (x0_1 < (a0.length : Int)) → ((D.int (gt a0 x0_1.toNat 0)) = (D.int (gt a1 x0_1.toNat 0))) → -9223372036854775808 ≤ (x0_1 + 1) ∧ (x0_1 + 1) ≤ 9223372036854775807
  n10 : ∀ x0_0 x0_1, I0 x0_0 x0_1 → ((a0.length : Int) = (a1.length : Int)) → (x0_1 < (a0.length : Int)) → ((D.int (gt a0 x0_1.toNat 0)) = (D.int (gt a1 x0_1.toNat 0))) → I0 x0_0 (x0_1 + 1) ∧ m0 x0_0 (x0_1 + 1) < m0 x0_0 x0_1
  g11 : ∀ x0_0 x0_1, I0 x0_0 x0_1 → ((a0.length : Int) = (a1.length : Int)) → (¬ x0_1 < (a0.length : Int)) → R 0 0 = D.b true
end HX

namespace HX
open Go Go.Proofs CX

theorem law17 {a0_0 a0_1 a0_2 : Int} {R : Nat → Nat → D} (hR : R 0 0 = .i (chkS a0_0 a0_1 a0_2)) : V17 a0_0 a0_1 a0_2 R := by
  constructor
  all_goals (intros; rw [hR, chkS]; simp only [mxI_eq, mnI_eq] at *)
  all_goals (first | rw [if_neg (by omega)] | rw [if_pos (by omega)])
theorem law18 {a0_0 a0_1 a0_2 : Int} {R : Nat → Nat → D} (hR : R 0 0 = .i (chkS a0_0 a0_1 a0_2)) : V18 a0_0 a0_1 a0_2 R := by
  constructor
  all_goals (intros; rw [hR, chkS])
  all_goals (first | rw [if_neg (by omega)] | rw [if_pos (by omega)])

theorem law21 {a0 a1 : Rows} (hl : a0.length ≤ 9223372036854775807) (h : a0 = a1) {R : Nat → Nat → D} (hR : R 0 0 = .b true) :
    V21 a0 a1 R (fun _ x => ∃ r : Nat, x = r ∧ r ≤ a0.length) (fun _ x => (a0.length - x).toNat) := by
  subst h
  constructor
  all_goals (try (intro s x ⟨r, hx, hr⟩; subst hx))
  all_goals (intros; (try simp only [Int.toNat_natCast] at *))
  all_goals (try omega)
  case i0 => exact ⟨0, rfl, by omega⟩
  case n10 => exact ⟨⟨r + 1, by omega, by omega⟩, by omega⟩
  all_goals first
    | exact hR
    | (exfalso; rename_i h; exact h trivial)
    | (exfalso; rename_i h; exact h rfl)

end HX
