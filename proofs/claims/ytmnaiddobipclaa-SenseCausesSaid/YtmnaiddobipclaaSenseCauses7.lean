/-
  SenseCauses: for all ears, whiskers, samples and cuts, the function returns true, and its arguments read as they did.
-/
import Derived.Test.YtmnaiddobipclaaSenseCauses6
import Derived.Test.YtmnaiddobipclaaRows
/-
  SenseCauses: the statement's own function returns true.
-/
namespace SX
open Go Go.Proofs
set_option maxRecDepth 100000

def STR2 : Bool × List Kd := (true, [.int .i64, .int .i64])
noncomputable def caHear : Ctr := ⟨23, ⟨[STR2, INS], [EVS, I64]⟩, fun _ => True, hearRes⟩
noncomputable def caFeel : Ctr := ⟨25, ⟨[STR2, INS], [EVS, I64]⟩, fun _ => True, feelRes⟩
noncomputable def caBef : Ctr := ⟨37, ⟨[EVS, I64], [EVS]⟩, befPre, befRes⟩
noncomputable def csC : List Ctr := [cEvents, caHear, caFeel, caBef, cWorks]
noncomputable def sgC : List (Nat × Sig) := csC.map fun c => (c.f, c.sg)
def caPs : List (Bool × List Kd) := [(false, [.int .u8]), (false, [.int .u16]), (false, [.sl [.int .i16]]), (false, [.int .u16]), (false, [.int .u16]), (false, [.int .u8])]

theorem tmodR {a b : Int} (ha : 0 ≤ a) (hb : 0 < b) : 0 ≤ a.tmod b ∧ a.tmod b < b := ⟨Int.tmod_nonneg b ha, Int.tmod_lt_of_pos a hb⟩
theorem tmodA (a : Int) {b : Int} (hb : 0 < b) : -b < a.tmod b ∧ a.tmod b < b := by
  refine ⟨?_, Int.tmod_lt_of_pos a hb⟩
  have h := Int.tmod_lt_of_pos (-a) hb
  rw [Int.neg_tmod] at h
  omega

theorem wrapU (a : Int) : 0 ≤ IntKind.wrap .u16 a ∧ IntKind.wrap .u16 a ≤ 65535 := by
  have h : IntKind.wrap .u16 a = a % 65536 := by simp [IntKind.wrap, IntKind.signed, IntKind.bits]
  rw [h]
  omega
theorem snoc1 {f : Nat → Int} {r : Nat} {x : Int} (h : x = f r) : SlEq ⟨[.int .i64], r + 1, fun i _ => D.ofI (f i)⟩ ⟨[.int .i64], r + 1, fun i c => if i < r then (D.ofI (f i)) else ([[D.ofI x]].getD (i - r) []).getD c .nil⟩ := by
  refine ⟨rfl, fun i hi => ?_⟩
  by_cases hn : i < r
  · simp [dEqs, dEq, hn]
  · have : i = r := by simp only [] at hi; omega
    subst this
    simp [dEqs, dEq, h]
def CutOk (x : Int) (n C : Nat) : Prop := x.tmod ((n : Int) + 1) = (C : Int) ∧ C ≤ n
theorem cut_mk {x : Int} (hx : 0 ≤ x) (n : Nat) : ∃ C, CutOk x n C := by
  have h := tmodR (a := x) (b := (n : Int) + 1) hx (by omega)
  exact ⟨(x.tmod ((n : Int) + 1)).toNat, by rw [Int.toNat_of_nonneg h.1], by omega⟩

theorem set1 {f : Nat → Int} {t x : Int} {r i : Nat} (hi : i < r) (h : x = (f i).tmod t) : SlEq ⟨[.int .i64], r, fun a _ => D.ofI (if a < i + 1 then (f a).tmod t else f a)⟩ ⟨[.int .i64], r, fun a c => if a = i ∧ 0 ≤ c ∧ c < 0 + [D.ofI x].length then [D.ofI x].getD (c - 0) .nil else D.ofI (if a < i then (f a).tmod t else f a)⟩ := by
  refine ⟨rfl, fun a ha => ?_⟩
  by_cases hn : a = i
  · subst hn
    simp [dEqs, dEq, h]
  · by_cases h1 : a < i
    · have h2 : a < i + 1 := by omega
      simp [dEqs, dEq, hn, h1, h2]
    · have h2 : ¬ a < i + 1 := by omega
      simp [dEqs, dEq, hn, h1, h2]

set_option maxHeartbeats 8000000 in
theorem senseCauses_pure {A pre fn} (hE : EnvOk ⟨A, tabF, sigL sgC, pre, fn, inlL [], cmpL (frL [23, 25] cmpT)⟩ Try.prog) (H : Has pre fn csC) : PureFn Try.prog ⟨caPs, [(false, [.bool])]⟩ 8 (RngAll caPs) trueRes := by
  have hf := Try.func8
  have h17 := H cEvents (by simp [csC])
  have h23 := H caHear (by simp [csC])
  have h25 := H caFeel (by simp [csC])
  have h37 := H caBef (by simp [csC])
  have h13 := H cWorks (by simp [csC])
  generalize Try.prog = P at *
  refine PureFn.of_vc hE 0 hf ?_
  intro ch st l hl to ba cu hr
  have hA := hE.A
  simp only [] at hA
  simp only [LenOk, LenOks, maxLen] at hl
  have p17 : pre 17 = fun _ => True := h17.1
  have p23 : pre 23 = fun _ => True := h23.1
  have p25 : pre 25 = fun _ => True := h25.1
  have p37 : pre 37 = befPre := h37.1
  have p13 : pre 13 = fun _ => True := h13.1
  have e17 : fn 17 = eventsRes := h17.2
  have e23 : fn 23 = hearRes := h23.2
  have e25 : fn 25 = feelRes := h25.2
  have e37 : fn 37 = befRes := h37.2
  have e13 : fn 13 = trueRes := h13.2
  clear h17 h23 h25 h37 h13
  have hll := hl.1
  clear hl
  simp only [caPs, RngAll, RngKs, RngK, IntKind.min, IntKind.max, IntKind.bits, IntKind.signed, if_true, Bool.false_eq_true, if_false, List.getD_cons_zero, and_true] at hr
  obtain ⟨r1, r2, r3, r4, r5, r6⟩ := hr
  generalize hR : trueRes = R
  have fin : ∀ p : Prop, p → DEq .bool (A.ofP p) (R [[ch], [st], [l], [to], [ba], [cu]] 0 0) := fun p hp => ⟨by
    subst hR hA
    simpa [dEq, trueRes, Ar.std, D.ofP, D.p] using hp⟩
  have hwk : A.dp (fn 13 [] 0 0) := by rw [e13]; subst hA; exact trivial
  clear hR
  have q1 := tmodR (a := ch.i) (b := 16) (by omega) (by omega)
  have q2 := tmodR (a := st.i) (b := 32767) (by omega) (by omega)
  have q3 := tmodR (a := to.i) (b := 1000) (by omega) (by omega)
  have q4 := tmodR (a := ba.i) (b := 1 + to.i.tmod 1000 + 1) (by omega) (by omega)
  cbv
  refine Br.mk (fun h1 => ?_) (fun h1 => ?_) <;> cbv
  · exact ⟨by rw [p13]; exact True.intro, ⟨⟨fin _ hwk, trivial⟩, trivial⟩⟩
  obtain ⟨n, hn⟩ : ∃ n, l.n = n := ⟨_, rfl⟩
  have hlen : l.n ≤ 100 := by clear hE fin; subst hA; exact Int.ofNat_le.1 (Int.not_lt.1 h1)
  obtain ⟨CH, hCH⟩ : ∃ CH, 1 + ch.i.tmod 16 = CH := ⟨_, rfl⟩
  obtain ⟨SP, hSP⟩ : ∃ SP, 1 + st.i.tmod 32767 = SP := ⟨_, rfl⟩
  obtain ⟨TO, hTO⟩ : ∃ TO, 1 + to.i.tmod 1000 = TO := ⟨_, rfl⟩
  rw [hTO] at q4
  obtain ⟨BA, hBA⟩ : ∃ BA, ba.i.tmod (TO + 1) = BA := ⟨_, rfl⟩
  rw [hBA] at q4
  obtain ⟨sV, hsV⟩ : ∃ sV : Nat → Int, (fun r => if (-32767 : Int) > (l.row r 0).i then -32767 else (l.row r 0).i) = sV := ⟨_, rfl⟩
  obtain ⟨aV, haV⟩ : ∃ aV : Nat → Int, (fun r => (sV r).tmod 1001) = aV := ⟨_, rfl⟩
  obtain ⟨qV, hqV⟩ : ∃ qV : Nat → Int, (fun r => (IntKind.wrap .u16 (l.row r 0).i).tmod SP) = qV := ⟨_, rfl⟩
  obtain ⟨VS, hVS⟩ : ∃ VS : Nat → Nat → D, (fun r _ => D.ofI (sV r)) = VS := ⟨_, rfl⟩
  obtain ⟨VA, hVA⟩ : ∃ VA : Nat → Nat → D, (fun r _ => D.ofI (aV r)) = VA := ⟨_, rfl⟩
  obtain ⟨VQ, hVQ⟩ : ∃ VQ : Nat → Nat → D, (fun r _ => D.ofI (qV r)) = VQ := ⟨_, rfl⟩
  have sr : ∀ r, r < l.n → -32767 ≤ sV r ∧ sV r ≤ 32767 := fun r hr => by
    have := r3 r hr
    rw [← hsV]
    simp only []
    split <;> omega
  have ar : ∀ r, -1000 ≤ aV r ∧ aV r ≤ 1000 := fun r => by
    have := tmodA (sV r) (b := 1001) (by omega)
    rw [← haV]
    simp only []
    omega
  have qr : ∀ r, 0 ≤ qV r ∧ qV r < SP := fun r => by
    rw [← hqV]
    simp only []
    refine tmodR ?_ (by omega)
    simp only [IntKind.wrap, IntKind.signed]
    exact Int.emod_nonneg _ (by simp [IntKind.bits])
  repeat' (first | (refine Br.mk (fun _ => ?_) (fun _ => ?_) <;> cbv) | refine And.intro ?_ ?_ | exact True.intro)
  all_goals (try (clear fin; ((try clear hK2); (try clear hK); (try clear hE); (try clear fin); subst hA; simp only [Ar.std, IntKind.min, IntKind.max, IntKind.bits, IntKind.signed, if_true] at *); omega))
  refine loopK hE 0 3 [5, 12, 13, 14, 60] (fun (r : Nat) b => ⟨[(62, .int .i64 (A.nat r)), (61, .int .i64 (A.nat n)), (15, .at b 0), (16, .at (b + 1) 0), (17, .at (b + 2) 0)], [(1, .cells [.int .i64 CH, .int .i64 SP]), (2, .cells [.int .i64 TO, .int .i64 BA]), (b, .arr false ⟨[.int .i64], r, VS⟩), (b + 1, .arr false ⟨[.int .i64], r, VA⟩), (b + 2, .arr false ⟨[.int .i64], r, VQ⟩)], []⟩) (fun r => r ≤ n) (fun r => n - r) 0 (Nat.zero_le _) ?_ ?_
  · cbv
    repeat' (first | (refine Br.mk (fun _ => ?_) (fun _ => ?_) <;> cbv) | refine And.intro ?_ ?_ | exact True.intro)
    all_goals first | exact Iff.rfl | exact SlEq.refl _ | (subst hA; rfl) | (subst hA; exact hCH.symm) | (subst hA; exact hSP.symm) | (subst hA; exact hTO.symm) | (subst hA hTO; exact hBA.symm) | (subst hA; exact congrArg (fun (x : Nat) => (x : Int)) hn.symm)
  · intro r hr K hK
    cbv
    refine Br.mk (fun h3 => ?_) (fun h3 => ?_) <;> cbv
    · have hrn : r < n := by (subst hA; simp only [Ar.std] at h3 ⊢); omega
      have hrl : r < l.n := by omega
      have rr := r3 r hrl
      have wr := wrapU (l.row r 0).i
      have e1 : sV r = if (-32767 : Int) > (l.row r 0).i then -32767 else (l.row r 0).i := by rw [← hsV]
      have e2 : aV r = (sV r).tmod 1001 := by rw [← haV]
      have e3 : qV r = (IntKind.wrap .u16 (l.row r 0).i).tmod SP := by rw [← hqV]
      rw [e1] at e2
      repeat' (first | (refine Br.mk (fun _ => ?_) (fun _ => ?_) <;> cbv) | refine And.intro ?_ ?_ | exact True.intro)
      all_goals (try (clear fin hK; ((try clear hK2); (try clear hK); (try clear hE); (try clear fin); subst hA; simp only [Ar.std, IntKind.min, IntKind.max, IntKind.bits, IntKind.signed, if_true] at *); (try simp only [Int.toNat_natCast] at *); omega))
      refine hK (r + 1) _ hrn (by omega) ?_
      cbv
      repeat' (first | (refine Br.mk (fun _ => ?_) (fun _ => ?_) <;> cbv) | refine And.intro ?_ ?_ | exact True.intro)
      all_goals first
        | exact Iff.rfl
        | exact SlEq.refl _
        | (subst hA; rfl)
        | (subst hA hVQ; exact snoc1 e3.symm)
        | skip
      · subst hA hVS; exact snoc1 e1.symm
      · subst hA hVA; exact snoc1 e2.symm
    have e : r = n := by (subst hA; simp only [Ar.std] at h3 ⊢); omega
    subst e
    clear hK h3 hr
    obtain ⟨C, hC⟩ := cut_mk (x := cu.i) (by omega) r
    obtain ⟨c, hc⟩ : ∃ c : Nat, (c : Int) = CH := ⟨CH.toNat, by omega⟩
    have okH : hearOk c SP := by rw [hc]; exact ⟨by omega, by omega⟩
    have okF : feelOk TO BA := ⟨by omega, by omega⟩
    have hr100 : r ≤ 100 := by omega
    have srr : ∀ t, t < r → -32767 ≤ sV t ∧ sV t ≤ 32767 := fun t ht => sr t (by omega)
    have qrr : ∀ t, t < r → -32767 ≤ qV t ∧ qV t ≤ 32767 := fun t _ => by have := qr t; omega
    have arr : ∀ t, t < r → -1000 ≤ aV t ∧ aV t ≤ 1000 := fun t _ => ar t
    have cs : C ≤ r := hC.2
    have d1 := (hearOf okH hr100 srr).2
    have d2 := (hearOf okH (Nat.le_trans cs hr100) fun t ht => srr t (Nat.lt_of_lt_of_le ht cs)).2
    have d3 := (feelOf okF hr100 arr).2
    have d4 := (feelOf okF (Nat.le_trans cs hr100) fun t ht => arr t (Nat.lt_of_lt_of_le ht cs)).2
    have d5 := (hearOf okH hr100 qrr).2
    have d6 := hearFirst okH hr100 cs srr
    have d7 := feelFirst okF hr100 cs arr
    have d8 := (hearOf okH hr100 qrr).1
    rw [hearS_quiet (n := r) (step := SP) c (by omega) (fun t _ => qr t) r (Nat.le_refl _)] at d8
    have e2 : (D.ofL c fun _ _ => .nil).n = c := rfl
    clear e2
    have fl := feelS_small (touch := TO) (back := BA) (s := aV) hr100
    have hl := hearS_small (step := SP) (s := sV) (by have := okH.1; omega : c ≤ 16) hr100
    have d9 := (hearOf okH hr100 srr).1
    have d0 := (feelOf okF hr100 arr).1
    rw [hVS, hc] at d1 d2 d6 d9
    rw [hVA] at d3 d4 d7 d0
    rw [hVQ, hc] at d5 d8
    have d8i : ((hearRes [[.ofI CH, .ofI SP], [.ofL r VQ]] 0 0).n : Int) = 0 := by rw [d8]; rfl
    clear d8
    have ft := feelS_turn TO BA aV r
    obtain ⟨LH, hLH⟩ : ∃ L, hearS c SP sV r = L := ⟨_, rfl⟩
    obtain ⟨LA, hLA⟩ : ∃ L, (feelS TO BA aV r).2 = L := ⟨_, rfl⟩
    rw [hLH] at hl d9
    rw [hLA] at fl d0 ft
    obtain ⟨PL, hPL⟩ : ∃ PL, LA.length = PL := ⟨_, rfl⟩
    obtain ⟨PR, hPR⟩ : ∃ PR, evRow LA = PR := ⟨_, rfl⟩
    obtain ⟨E0, hE0⟩ : ∃ E0 : Nat → Int, (fun k => (LA.getD k (0, 0)).1) = E0 := ⟨_, rfl⟩
    obtain ⟨E1, hE1⟩ : ∃ E1 : Nat → Int, (fun k => (LA.getD k (0, 0)).2) = E1 := ⟨_, rfl⟩
    have pe0 : ∀ k, (PR k 0).i = E0 k := fun k => by rw [← hPR, ← hE0]; rfl
    have pe1 : ∀ k, (PR k 1).i = E1 k := fun k => by rw [← hPR, ← hE1]; rfl
    have av : ∀ k, (VA k 0).i = aV k := fun k => by rw [← hVA]; rfl
    have tt : ∀ k, k < PL → (0 ≤ E0 k ∧ (E0 k).toNat < r ∧ ((k % 2 = 0 ∧ E1 k = 0 ∧ aV (E0 k).toNat ≤ -TO) ∨ (k % 2 = 0 ∧ E1 k = 1 ∧ TO ≤ aV (E0 k).toNat) ∨ (k % 2 = 1 ∧ E1 k = 2))) := fun k hk => by
      have h := ft.2 k (LA.getD k (0, 0)) (by rw [← hPL] at hk; simp [List.getD_eq_getElem?_getD, hk])
      rw [← hE0, ← hE1]
      obtain ⟨a1, a2, a3, a4, a5⟩ := h
      refine ⟨a3, by simp only []; omega, ?_⟩
      rcases Nat.mod_two_eq_zero_or_one k with e | e
      · rcases a1 e with h | h
        · exact .inl ⟨e, h, (a5 e).2 h⟩
        · exact .inr (.inl ⟨e, h, (a5 e).1 h⟩)
      · exact .inr (.inr ⟨e, a2 e⟩)
    clear ft hE0 hE1
    rw [hPL, hPR] at d0
    rw [hPL] at fl
    clear hPR
    have i37 : ∀ (m : Nat) (f : Nat → Nat → D) (x : Int), m ≤ 1600 → pre 37 [[.ofL m f], [.ofI x]] := fun m f x hm => by
      rw [p37]
      show m ≤ 1000000
      omega
    repeat' (first | (refine Br.mk (fun _ => ?_) (fun _ => ?_) <;> cbv) | refine And.intro ?_ ?_ | exact True.intro)
    all_goals (try (rw [p23]; exact True.intro))
    all_goals (try (rw [p25]; exact True.intro))
    all_goals (try (rw [p17]; exact True.intro))
    all_goals (try (clear fin d1 d2 d3 d4 d5 d6 d7 d8i d9 d0 tt; obtain ⟨hC1, hC2⟩ := hC; ((try clear hK2); (try clear hK); (try clear hE); (try clear fin); subst hA; simp only [Ar.std, IntKind.min, IntKind.max, IntKind.bits, IntKind.signed, if_true, Bool.false_eq_true] at *); omega))
    all_goals (try (
      clear hE fin tt
      obtain ⟨hC1, hC2⟩ := hC
      subst hA
      simp only [Ar.std]
      rw [e23, d9]
      exact i37 _ _ _ hl))
    all_goals (try (
      clear hE fin tt
      obtain ⟨hC1, hC2⟩ := hC
      subst hA
      simp only [Ar.std]
      rw [e25, d0]
      exact i37 _ _ _ (Nat.le_trans fl (by omega))))
    all_goals (try (
      exfalso
      clear hE fin tt p13 p17 p23 p25 p37 i37
      obtain ⟨hC1, hC2⟩ := hC
      subst hA
      simp only [Ar.std, e23, e25, e17, e37, hC1, Int.toNat_natCast, d1, d2, d3, d4, d5, d6, d7, d8i, D.i_ofI, not_true_eq_false, not_false_eq_true] at *
      done))
    rename_i b1 b2 b3 b4 b5 b6 b7 b8
    clear b1 b2 b3 b4 b5 b6 b7 b8 d1 d2 d3 d4 d5 d6 d7 d8i d9
    refine loopK hE 0 0 [12, 14, 16] (fun (k : Nat) _ => ⟨[(167, .at 8 0), (168, .int .i64 (A.nat PL)), (169, .int .i64 (A.nat k))], [], [(8, ⟨[.int .i64, .int .i64], PL, PR⟩)]⟩) (fun k => k ≤ PL) (fun k => PL - k) 0 (Nat.zero_le _) ?_ ?_
    · cbv
      repeat' (first | (refine Br.mk (fun _ => ?_) (fun _ => ?_) <;> cbv) | refine And.intro ?_ ?_ | exact True.intro)
      all_goals first
        | exact Iff.rfl
        | exact SlEq.refl _
        | (subst hA; rfl)
        | (clear hE fin; subst hA; simp only [Ar.std]; rw [e25, d0]; rfl)
        | (clear hE fin; subst hA; simp only [Ar.std]; rw [e25, d0]; exact SlEq.refl _)
    · intro k hk K hK
      cbv
      refine Br.mk (fun h4 => ?_) (fun h4 => ?_) <;> cbv
      · have hkp : k < PL := by (subst hA; simp only [Ar.std] at h4 ⊢); omega
        obtain ⟨t1, t2, t3⟩ := tt k hkp
        have bTO : 1 ≤ TO ∧ TO ≤ 1000 := by omega
        clear tt hE fin sr srr qr qrr ar arr r3 d0 H hf p17 p23 p25 p37 p13 e17 e23 e25 e37 e13 hll r1 r2 r4 r5 r6 hwk q1 q2 q3 q4 hCH hSP hBA hsV haV hqV hVS hVA hVQ hC okH hLH hLA hPL i37
        repeat' (first | (refine Br.mk (fun _ => ?_) (fun _ => ?_) <;> cbv) | refine And.intro ?_ ?_ | exact True.intro)
        all_goals (try (
          have tm : (k : Int).tmod 2 = ((k % 2 : Nat) : Int) := Int.tmod_eq_emod_of_nonneg (by omega)
          clear hK
          subst hA
          simp only [Ar.std, IntKind.min, IntKind.max, IntKind.bits, IntKind.signed, if_true, Bool.false_eq_true, Int.toNat_natCast, pe0, pe1, av, tm] at *
          omega))
        all_goals (
          refine hK (k + 1) _ hkp (by omega) ?_
          cbv
          repeat' (first | (refine Br.mk (fun _ => ?_) (fun _ => ?_) <;> cbv) | refine And.intro ?_ ?_ | exact True.intro)
          all_goals first | exact Iff.rfl | exact SlEq.refl _ | (subst hA; rfl))
      · clear hK h4 hk tt
        obtain ⟨WA, hWA⟩ : ∃ WA : Nat → Nat → Nat → D, (fun i a _ => D.ofI (if a < i then (aV a).tmod TO else aV a)) = WA := ⟨_, rfl⟩
        have w0 : WA 0 = VA := by rw [← hWA, ← hVA]; funext a c; simp
        repeat' (first | (refine Br.mk (fun _ => ?_) (fun _ => ?_) <;> cbv) | refine And.intro ?_ ?_ | exact True.intro)
        all_goals (try (clear fin; ((try clear hK2); (try clear hK); (try clear hE); (try clear fin); subst hA; simp only [Ar.std, IntKind.min, IntKind.max, IntKind.bits, IntKind.signed] at *); omega))
        refine loopK hE 0 0 [12, 14, 16] (fun (i : Nat) _ => ⟨[(245, .int .i64 (A.nat r)), (246, .int .i64 (A.nat i))], [(4, .arr false ⟨[.int .i64], r, WA i⟩)], []⟩) (fun i => i ≤ r) (fun i => r - i) 0 (Nat.zero_le _) ?_ ?_
        · cbv
          repeat' (first | (refine Br.mk (fun _ => ?_) (fun _ => ?_) <;> cbv) | refine And.intro ?_ ?_ | exact True.intro)
          all_goals first
            | exact Iff.rfl
            | exact SlEq.refl _
            | (subst hA; rfl)
            | (show SlEq ⟨_, _, WA 0⟩ _; rw [w0]; exact SlEq.refl _)
            | skip
        · intro i hi K hK
          cbv
          refine Br.mk (fun h5 => ?_) (fun h5 => ?_) <;> cbv
          · have hir : i < r := by (subst hA; simp only [Ar.std] at h5 ⊢); omega
            have wv : (WA i i 0).i = aV i := by rw [← hWA]; simp [D.i_ofI]
            have bTO : 1 ≤ TO ∧ TO ≤ 1000 := by omega
            have ai := ar i
            repeat' (first | (refine Br.mk (fun _ => ?_) (fun _ => ?_) <;> cbv) | refine And.intro ?_ ?_ | exact True.intro)
            all_goals (try (clear fin hK; subst hA; simp only [Ar.std, IntKind.min, IntKind.max, IntKind.bits, IntKind.signed, if_true, Int.toNat_natCast, wv]; omega))
            all_goals (try (
              refine hK (i + 1) _ hir (by omega) ?_
              cbv
              repeat' (first | (refine Br.mk (fun _ => ?_) (fun _ => ?_) <;> cbv) | refine And.intro ?_ ?_ | exact True.intro)
              all_goals first
                | exact Iff.rfl
                | exact SlEq.refl _
                | (subst hA; rfl)
                | (subst hA hWA; exact set1 hir (by simp [Ar.std, D.i_ofI]))))
          · have e : i = r := by (subst hA; simp only [Ar.std] at h5 ⊢); omega
            subst e
            clear hK h5 hi
            have bTO : 1 ≤ TO ∧ TO ≤ 1000 := by omega
            have fr : ∀ a, a < i → -TO < (if a < i then (aV a).tmod TO else aV a) ∧ (if a < i then (aV a).tmod TO else aV a) < TO := fun a ha => by
              rw [if_pos ha]
              exact tmodA _ (by omega)
            have g0 := feelOf (s := fun a => if a < i then (aV a).tmod TO else aV a) okF hr100 fun a ha => by
              obtain ⟨b1, b2⟩ := fr a ha
              exact ⟨Int.le_trans (by omega) (Int.le_of_lt b1), Int.le_trans (Int.le_of_lt b2) (by omega)⟩
            rw [show (fun a (_ : Nat) => D.ofI ((fun a => if a < i then (aV a).tmod TO else aV a) a)) = WA i by rw [← hWA]] at g0
            have g1 := g0.1
            have g2 := g0.2
            rw [show feelS TO BA (fun a => if a < i then (aV a).tmod TO else aV a) i = (0, []) from feelS_free fr i (Nat.le_refl _)] at g1
            have g3 : ((feelRes [[.ofI TO, .ofI BA], [.ofL i (WA i)]] 0 0).n : Int) = 0 := by rw [g1]; rfl
            clear g0 g1
            repeat' (first | (refine Br.mk (fun _ => ?_) (fun _ => ?_) <;> cbv) | refine And.intro ?_ ?_ | exact True.intro)
            all_goals (try (rw [p25]; exact True.intro))
            all_goals (try (rw [p13]; exact True.intro))
            all_goals (try (exact fin _ hwk))
            all_goals (try (
              exfalso
              clear hE fin p13 p17 p23 p25 p37 i37 d0
              subst hA
              simp only [Ar.std, e25, g2, g3, D.i_ofI, not_true_eq_false] at *
              done))
end SX

/-
  What each closing text wants.
-/
namespace SX
open Go Go.Proofs Go.ChangeShapes Go.WideShapes Go.ChangeAt Go.RowKit

theorem own : ownKnob Try.prog.godebug = none := by kernel_rfl
theorem laid : laidOutB Try.prog = true := by kernel_rfl
theorem mixed : Try.prog.follows .mixedOrders = true := by kernel_rfl

/-- A list of contracts is in force. -/
def HasL (pre : Nat → List (List D) → Prop) (fn : Nat → List (List D) → Nat → Nat → D) (l : List Ctr) : Prop := ∀ c ∈ l, pre c.f = c.pre ∧ fn c.f = c.res

theorem has_selfL : ∀ (l : List Ctr), (l.map (·.f)).Nodup → HasL (preOf l) (resOf l) l := by
  intro l hn c hc
  have key : ∀ l : List Ctr, (l.map (·.f)).Nodup → c ∈ l → ctrOf l c.f = some c := by
    intro l
    induction l with
    | nil => intro _ h; cases h
    | cons d r ih =>
      intro hn hc
      simp only [List.map_cons, List.nodup_cons] at hn
      simp only [ctrOf]
      rcases List.mem_cons.1 hc with rfl | hc
      · rw [if_pos rfl]
      · rw [if_neg fun e => hn.1 (by rw [e]; exact List.mem_map.2 ⟨c, hc, rfl⟩)]
        exact ih hn.2 hc
  have k := key l hn hc
  exact ⟨by funext ds; simp only [preOf, k], by funext ds; simp only [resOf, k]⟩

/-- Proved contracts and inlined functions, one by one. -/
inductive CtrsOk (P : Program) : List Ctr → Prop
  | nil : CtrsOk P []
  | cons {c : Ctr} {l : List Ctr} (h : PureFn P c.sg c.f c.pre c.res) (fn : Func) (hf : P.funcs[c.f]? = some fn) (hb : fn.body.isSome = true) (hn : (fn.name == "runtime.NumGoroutine") = false) (r : CtrsOk P l) : CtrsOk P (c :: l)
inductive InlsOk (P : Program) : List (Nat × Func) → Prop
  | nil : InlsOk P []
  | cons {f : Nat} {fn : Func} {l : List (Nat × Func)} (hf : P.funcs[f]? = some fn) (hb : fn.body.isSome = true) (hn : (fn.name == "runtime.NumGoroutine") = false) (r : InlsOk P l) : InlsOk P ((f, fn) :: l)

theorem CtrsOk.all {P : Program} : ∀ {l : List Ctr}, CtrsOk P l → ∀ c ∈ l, PureFn P c.sg c.f c.pre c.res ∧ ∃ fn, fnOk P c.f fn
  | [], _, c, hc => by cases hc
  | _ :: _, .cons h fn hf hb hn r, c, hc => by
    rcases List.mem_cons.1 hc with rfl | hc
    · exact ⟨h, fn, hf, hb, hn⟩
    · exact r.all c hc
theorem InlsOk.all {P : Program} : ∀ {l : List (Nat × Func)}, InlsOk P l → ∀ x ∈ l, fnOk P x.1 x.2
  | [], _, c, hc => by cases hc
  | _ :: _, .cons hf hb hn r, x, hx => by
    rcases List.mem_cons.1 hx with rfl | hx
    · exact ⟨hf, hb, hn⟩
    · exact r.all x hx

/-- The functions that make their results anew, put behind the types that can be compared. -/
def smallL (l : List Nat) : Bool := l.all fun x => bltN x 1000000
theorem cmp_small : smallL cmpT = true := by kernel_rfl
theorem tab_small : (tab.all fun x => bltN x.1 1000000) = true := by kernel_rfl

theorem frL_old {fs : List Nat} {f : Nat} (h : cmpL (frL fs cmpT) (freshN f) = true) : f ∈ fs := by
  have h := (memN_iff _).1 h
  rcases List.mem_append.1 h with h | h
  · obtain ⟨x, hx, e⟩ := List.mem_map.1 h
    unfold freshN at e
    have : x = f := by omega
    rw [← this]; exact hx
  · have := List.all_eq_true.1 cmp_small _ h
    rw [bltN_iff] at this
    unfold freshN at this
    omega

theorem cmp_okF (fs : List Nat) : ∀ t, cmpL (frL fs cmpT) t = true → CmpOk Try.prog tabF t := by
  intro t h
  rcases List.mem_append.1 ((memN_iff _).1 h) with h | h
  · obtain ⟨x, hx, rfl⟩ := List.mem_map.1 h
    intro ty hty
    exfalso
    have key : ∀ (l : List (Nat × Ty)), (l.all fun x => bltN x.1 1000000) = true → look l (freshN x) = some ty → False := by
      intro l
      induction l with
      | nil => intro _ h; simp [look] at h
      | cons y r ih =>
        intro hl h
        simp only [List.all_cons, Bool.and_eq_true, bltN_iff] at hl
        simp only [look] at h
        split at h
        · rename_i hb
          have := beqN_eq hb
          unfold freshN at this
          have := hl.1
          omega
        · exact ih hl.2 h
    exact key tab tab_small hty
  · exact cmp_ok t ((memN_iff _).2 h)

theorem envOk_mkF {il : List (Nat × Func)} (hi : InlsOk Try.prog il) (fs : List Nat) {l : List Ctr} (h : CtrsOk Try.prog l) (hf : ∀ c ∈ l, c.f ∈ fs → PureFnF Try.prog c.sg c.f c.pre c.res) :
    EnvOk ⟨Ar.std, tabF, sigL (l.map fun c => (c.f, c.sg)), preOf l, resOf l, inlL il, cmpL (frL fs cmpT)⟩ Try.prog :=
  envOk_of tab_ok (cmp_okF fs) mixed il hi.all l h.all (fun c hc h => hf c hc (frL_old h))

theorem envOk_mk {il : List (Nat × Func)} (hi : InlsOk Try.prog il) {l : List Ctr} (h : CtrsOk Try.prog l) :
    EnvOk ⟨Ar.std, tabF, sigL (l.map fun c => (c.f, c.sg)), preOf l, resOf l, inlL il, cmpL cmpT⟩ Try.prog :=
  envOk_mkF hi [] h (fun _ _ h => by cases h)
end SX

/-
  SenseCauses: for all ears, whiskers, samples and cuts, the function returns true, and its arguments read as they did.
-/
namespace SX
open Go Go.Proofs

theorem inlH_ok : InlsOk Try.prog inlH := .cons Try.func60 (by kernel_rfl) (by kernel_rfl) (.cons Try.func61 (by kernel_rfl) (by kernel_rfl) (.cons Try.func85 (by kernel_rfl) (by kernel_rfl) (.cons Try.func86 (by kernel_rfl) (by kernel_rfl) .nil)))
theorem in_p : PureFn Try.prog cIn.sg cIn.f cIn.pre cIn.res := in_pure (envOk_mk inlH_ok .nil)
theorem within_p : PureFn Try.prog cWithin.sg cWithin.f cWithin.pre cWithin.res := within_pure (envOk_mk inlH_ok .nil)
theorem events_p : PureFn Try.prog cEvents.sg cEvents.f cEvents.pre cEvents.res := events_pure (envOk_mk inlH_ok .nil)
theorem down_p : PureFn Try.prog cDown.sg cDown.f cDown.pre cDown.res := down_pure (envOk_mk inlH_ok .nil)
theorem cs1_ok : CtrsOk Try.prog cs1 := .cons in_p _ Try.func50 (by kernel_rfl) (by kernel_rfl) (.cons within_p _ Try.func53 (by kernel_rfl) (by kernel_rfl) (.cons events_p _ Try.func17 (by kernel_rfl) (by kernel_rfl) (.cons down_p _ Try.func62 (by kernel_rfl) (by kernel_rfl) .nil)))
theorem hear_p : PureFnF Try.prog caHear.sg caHear.f caHear.pre caHear.res := hear_pure (envOk_mk inlH_ok cs1_ok) (has_selfL cs1 (by decide))
theorem feel_p : PureFnF Try.prog caFeel.sg caFeel.f caFeel.pre caFeel.res := feel_pure (envOk_mk inlH_ok cs1_ok) (has_selfL cs1 (by decide))
theorem before_p : PureFn Try.prog caBef.sg caBef.f caBef.pre caBef.res := before_pure (envOk_mk (il := []) .nil .nil)
theorem csC_ok : CtrsOk Try.prog csC := .cons events_p _ Try.func17 (by kernel_rfl) (by kernel_rfl) (.cons (hear_p.pure (by decide)) _ Try.func23 (by kernel_rfl) (by kernel_rfl) (.cons (feel_p.pure (by decide)) _ Try.func25 (by kernel_rfl) (by kernel_rfl)
  (.cons before_p _ Try.func37 (by kernel_rfl) (by kernel_rfl) (.cons works_pure _ Try.func13 (by kernel_rfl) (by kernel_rfl) .nil))))
theorem csC_fr : ∀ c ∈ csC, c.f ∈ [23, 25] → PureFnF Try.prog c.sg c.f c.pre c.res := by
  intro c hc hf
  simp only [csC, List.mem_cons, List.not_mem_nil, or_false] at hc
  rcases hc with rfl | rfl | rfl | rfl | rfl
  · exact absurd hf (by decide)
  · exact hear_p
  · exact feel_p
  · exact absurd hf (by decide)
  · exact absurd hf (by decide)
end SX

namespace Go.Proofs.Ytmnaiddobipclaa.senseCauses
open Go.ChangeShapes Go.WideShapes Go.ChangeAt Go.RowKit SX

theorem law : PureFn Try.prog ⟨caPs, [(false, [.bool])]⟩ 8 (RngAll caPs) trueRes := senseCauses_pure (envOk_mkF (il := []) .nil [23, 25] csC_ok csC_fr) (has_selfL csC (by decide))

theorem lenN {α β : Type} {F : List α → β} {G : List α → β} (h : ∀ a b c d e f, F [a, b, c, d, e, f] = G [a, b, c, d, e, f]) : ∀ ds : List α, ds.length = 6 → F ds = G ds
  | [a, b, c, d, e, f], _ => h a b c d e f

set_option maxRecDepth 100000 in
set_option maxHeartbeats 400000 in
theorem lifted (os : Os) (started : os.Started) (H : Type) (enc : TypeId × Value → H) :
    ReturnsInHanded {} Try.checked os 8 .any (Rows.senseCausesSpec.pre6 enc Try.prog Try.f8 Rows.senseCausesRow.domain false) (Rows.senseCausesSpec.post enc Try.prog Try.f8 false true false false) := by
  refine returnsInHanded_of_change (C := Try.checked) own started (by kernel_rfl) Try.func8
    (ChangeSpec.witness6 (enc := enc) (C := Try.checked) false ⟨#[], #[.int .u8 0, .int .u16 0, .slice none 0 0, .int .u16 0, .int .u16 0, .int .u8 0], []⟩ 8 (by kernel_rfl) (by kernel_rfl) (by kernel_rfl) (by kernel_rfl)) ?_
  intro W base args ds gs before hval hW _ _
  exact said (f := Try.f8) (s := Rows.senseCausesSpec) (n := 8) (tb := 4) law (by kernel_rfl) laid (by kernel_rfl) rfl Try.underlying4
    (lenN (F := Rows.senseCausesSpec.fn H) (G := fun ds => ⟨[.lit (.bool true)], ds, []⟩) fun _ _ _ _ _ _ => rfl) rfl W base args ds gs before hval hW

theorem holds : Rows.SenseCausesSaid :=
  OpenClaim.holds_of_wide 8 Try.f8 rfl rfl rfl rfl rfl rfl rfl ⟨rfl, rfl, rfl, rfl, rfl⟩ rfl rfl rfl rfl rfl (by kernel_rfl) Try.func8 (by kernel_rfl)
    (of_decide_eq_true (by kernel_rfl)) (by unfold Func.isWrapper; first | (rw [if_pos (by decide +kernel)]; kernel_rfl) | (rw [if_neg (by decide +kernel)]; exact ⟨rfl, rfl⟩))
    (fun os started H enc _ => lifted os started H enc)
end Go.Proofs.Ytmnaiddobipclaa.senseCauses
