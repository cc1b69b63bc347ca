/-
  CalcShapes: for all times, curves and other times, the function returns true, and its arguments read as they did.
-/
import Derived.Test.YtlijpmeeldoofaaCalcShapes10
import Derived.Test.YtlijpmeeldoofaaRows
set_option linter.all false
namespace HX
open Go Go.Proofs CX

open Classical in
theorem kps_of {l : Rows} {b r : Int} (h : kps l b r = true) : Kps l b r := of_decide_eq_true h
theorem Oth.mono {T : Rows} {q : Nat} {o : Rows} (h : Oth T q o) : ∀ p, p < q → ∀ j, j ≤ p → tI o j ≤ tI o p
  | 0, _, j, hj => by rw [show j = 0 by omega]; exact Int.le_refl _
  | p + 1, hp, j, hj => by
    by_cases e : j = p + 1
    · rw [e]; exact Int.le_refl _
    · have := h.mono p (by omega) j (by omega)
      have := h.up p hp
      omega
theorem oth_x {l : Rows} (hu : u8L l) (q : Nat) (h : 0 < (l.length : Int)) : 0 ≤ Int.tmod q l.length ∧ Int.tmod q l.length < l.length ∧ 0 ≤ tI l (Int.tmod q l.length).toNat ∧ tI l (Int.tmod q l.length).toNat ≤ 255 ∧ 0 ≤ Int.tmod (tI l (Int.tmod q l.length).toNat) 9 ∧ Int.tmod (tI l (Int.tmod q l.length).toNat) 9 ≤ 8 := by
  rw [Int.tmod_eq_emod_of_nonneg (a := (q : Int)) (by omega)]
  have h1 := Int.emod_nonneg (q : Int) (b := (l.length : Int)) (by omega)
  have h2 := Int.emod_lt_of_pos (q : Int) h
  generalize (q : Int) % (l.length : Int) = m at h1 h2 ⊢
  have h3 := hu _ (row_mem (q := m.toNat) (l := l) (by omega))
  have h3 : 0 ≤ tI l m.toNat ∧ tI l m.toNat ≤ 255 := h3
  rw [Int.tmod_eq_emod_of_nonneg h3.1]
  omega
theorem raise {b r N X c : Int} (hr : 0 < r) (hr2 : r ≤ 1024) (hb : 0 ≤ b) (hN : N ≤ 31744) (hc : c ≤ X) (h : b + r * ((X - c) + 1) < N) :
    0 ≤ Int.tdiv (((N - b) + r) - 1) r ∧ Int.tdiv (((N - b) + r) - 1) r ≤ 33000 ∧ X + 1 ≤ (c - 1) + Int.tdiv (((N - b) + r) - 1) r := by
  have hp : 0 ≤ r * ((X - c) + 1) := Int.mul_nonneg (by omega) (by omega)
  rw [Int.tdiv_eq_ediv_of_nonneg (by omega)]
  have h1 : X - c + 2 ≤ (((N - b) + r) - 1) / r := by
    refine Int.le_ediv_of_mul_le hr ?_
    rw [Int.mul_comm, show X - c + 2 = (X - c + 1) + 1 by omega, Int.mul_add, Int.mul_one]
    omega
  have h2 : (((N - b) + r) - 1) / r ≤ ((N - b) + r) - 1 := Int.ediv_le_self _ (by omega)
  omega
theorem set_last (o : Rows) (x y : List D) {q : Nat} (h : o.length = q) : List.set (o ++ [x]) q y = o ++ [y] := by
  subst h
  rw [List.set_append_right _ _ (Nat.le_refl _), Nat.sub_self]
  rfl

structure TF (T S : Rows) (b r : Int) : Prop where
  len : T.length ≤ 30
  bd : ∀ j < T.length, 0 ≤ tI T j ∧ tI T j ≤ 400
  b0 : 0 ≤ b
  b1 : b ≤ 8191
  r0 : 0 ≤ r
  r1 : r ≤ 1024
  sh : (shE T b r = 0 ∧ SF T S b r) ∨ (shE T b r = 21 ∧ 0 < T.length ∧ (b + r < 1024 ∨ (r = 0 ∧ b < 1024 * T.length)))
def J0 (T S : Rows) (b r : Int) (o : Rows) (i : Int) : Prop := ∃ q : Nat, i = q ∧ q ≤ T.length ∧ Oth T q o ∧ TF T S b r ∧ SF T S b r
def J1 (T : Rows) (i x : Int) : Prop := tI T i.toNat ≤ x ∧ x ≤ tI T i.toNat + 8
def Hi (T o : Rows) (q : Nat) (x : Int) : Prop := tI T q ≤ x ∧ (∀ p, p < q → tI o p ≤ x) ∧ x ≤ 100000 * q + 40000
def J2 (T o : Rows) (i y : Int) : Prop := ∀ q : Nat, i = q → Hi T o q y
def J3 (T o : Rows) (i k : Int) (z : Rows) : Prop := ∃ (p : Nat) (X : Int), k = p ∧ p ≤ i ∧ z = o ++ [[.i X]] ∧ ∀ q : Nat, i = q → Hi T o q X
def J4 (S : Rows) (j : Int) : Prop := ∃ p : Nat, j = p ∧ p ≤ S.length

theorem oth_ok {T S o : Rows} {b r : Int} {q : Nat} (t : TF T S b r) (h : q ≤ T.length) (ot : Oth T q o) : okK o b r := by
  have := t.len
  have := t.b0
  have := t.b1
  refine ⟨fun j hj => ?_, by rw [ot.len]; omega, ⟨t.r0, t.r1⟩, by omega, by omega⟩
  have := ot.bd j (by rw [← ot.len]; exact hj)
  have := ot.len
  omega

theorem law4 {pre : Nat → List (List D) → Prop} {fn : Nat → List (List D) → Nat → Nat → D} (hp5 : pre 5 []) (hf5 : fn 5 [] 0 0 = .b true)
    (hp6 : ∀ l, u8L l → l.length ≤ 60 → pre 6 [[.l l]]) (hf6 : ∀ l, fn 6 [[.l l]] 0 0 = .l (risP l l.length))
    (hp8 : ∀ l b r, okK l b r → pre 8 [[.l l], [.i b, .i r]]) (hf8 : ∀ l b r, fn 8 [[.l l], [.i b, .i r]] 0 0 = .b (kps l b r))
    (hp9 : ∀ x, pre 9 x) (hf9 : ∀ a b, fn 9 [[.i a], [.i b]] 0 0 = .i a ∧ fn 9 [[.i a], [.i b]] 0 1 = .i b)
    (hp11 : ∀ x, pre 11 x) (hf11 : ∀ l b r, fn 11 [[.l l], [.i b, .i r]] 0 0 = .l (shL l b r) ∧ fn 11 [[.l l], [.i b, .i r]] 1 0 = .i (shE l b r))
    (hp12 : ∀ a, pre 12 [[.l a], [.l a]]) (hf12 : ∀ a b, fn 12 [[.l a], [.l b]] 0 0 = .b true)
    {a0 a3 : Rows} {a1 a2 : Int} (hu : u8L a0) (hu3 : u8L a3) (h1 : 0 ≤ a1) (h2 : a1 ≤ 65535) (h3 : 0 ≤ a2) (h4 : a2 ≤ 65535) {R : Nat → Nat → D} (hR : R 0 0 = .b true) :
    ∃ I0 m0 I1 m1 I2 m2 I3 m3 I4 m4 I5 m5 I6 m6 I7 m7 I8 m8 I9 m9, V4 pre fn a0 a1 a2 a3 R I0 m0 I1 m1 I2 m2 I3 m3 I4 m4 I5 m5 I6 m6 I7 m7 I8 m8 I9 m9 := by
  have hi : ∀ n : Int, (D.i n).int = n := fun _ => rfl
  have hb : ∀ n : Bool, (D.b n).boo = n := fun _ => rfl
  have hrw : ∀ n : Rows, (D.l n).rows = n := fun _ => rfl
  obtain ⟨T, hT⟩ : ∃ T, risP a0 a0.length = T := ⟨_, rfl⟩
  obtain ⟨b, hbe⟩ : ∃ b, Int.tmod a1 8192 = b := ⟨_, rfl⟩
  obtain ⟨r, hre⟩ : ∃ r, Int.tmod a2 1025 = r := ⟨_, rfl⟩
  obtain ⟨S, hS⟩ : ∃ S, shL T b r = S := ⟨_, rfl⟩
  have facts : ¬ 30 < (a0.length : Int) → TF T S b r := by
    intro hl
    have hb : 0 ≤ b ∧ b ≤ 8191 := by rw [← hbe, Int.tmod_eq_emod_of_nonneg h1]; omega
    have hr : 0 ≤ r ∧ r ≤ 1024 := by rw [← hre, Int.tmod_eq_emod_of_nonneg h3]; omega
    obtain ⟨hin, hs⟩ := ris_ok hu (by omega)
    have hlen := risP_len a0 a0.length
    have h1 := risP_one a0 a0.length
    have hbd : ∀ j < T.length, 0 ≤ tI T j ∧ tI T j ≤ 400 := by
      intro j hj
      rw [← hT, hlen] at hj
      rw [← hT, risP_t hj]
      have := risT_bd hu (j + 1) (by omega)
      omega
    rw [hT] at hin hs hlen h1
    have ht : tmE T = 0 := tmE_ok (by omega) hin hs
    have hc : crE b r = 0 := crE_0.2 (by omega)
    have := sh_facts hc ht h1
    rw [hS] at this
    exact ⟨by omega, hbd, hb.1, hb.2, hr.1, hr.2, this⟩
  have hlT : T.length = a0.length := by rw [← hT]; exact risP_len a0 a0.length
  refine ⟨J0 T S b r, fun _ i => (T.length - i).toNat, fun _ i x => J1 T i x, fun _ _ _ => 0, fun o i _ y => J2 T o i y, fun _ _ _ _ => 0, fun o i _ _ k z => J3 T o i k z, fun _ i _ _ k _ => (i - k).toNat, fun _ _ _ j => J4 S j, fun _ _ _ j => (S.length - j).toNat,
    J0 T S b r, fun _ i => (T.length - i).toNat, fun _ i x => J1 T i x, fun _ _ _ => 0, fun o i _ y => J2 T o i y, fun _ _ _ _ => 0, fun o i _ _ k z => J3 T o i k z, fun _ i _ _ k _ => (i - k).toNat, fun _ _ _ j => J4 S j, fun _ _ _ j => (S.length - j).toNat, ?_⟩
  constructor
  all_goals (try simp only [v4A, v4B, v4Z, v4a, v4b, v4c, v4d, v4e, v4f, v4g, v4h, v4i, v4k, v4m, v4n, v4o, v4q, v4s, hbe, hre, hf5, hf6, hf9, hi, hb, hrw, hT, hf11, hf8, hf12, hS, gt_tI])
  case g0 | g2 => intros; exact hp5
  case g1 | g3 => intros; exact hR
  case g4 => intros; exact hp6 _ hu (by omega)
  case g5 | g6 | g7 | g8 =>
    intro _ _
    first | decide | omega | (rw [← hbe]; omega)
  case g9 => intros; exact hp9 _
  case g10 => intros; exact hp11 _
  case g11 | g14 => intro hl; intros; have t := facts hl; have := t.len; have := t.b0; have := t.b1; have := t.r0; have := t.r1; omega
  case g12 | g15 => intros; exact hp5
  case g13 | g16 => intros; exact hR
  case g17 | g18 | g19 | g20 =>
    intro hl _ he
    intros
    exfalso
    rcases (facts hl).sh with e | ⟨e1, e2, e3⟩
    · exact he e.1
    · omega
  case g21 =>
    intro hl _ he hn
    exfalso
    rcases (facts hl).sh with e | ⟨e1, e2, e3⟩
    · have := e.2.len; omega
    · omega
  case g22 =>
    intro hl _ he _
    have t := facts hl
    have sf : SF T S b r := by
      rcases t.sh with e | e
      · exact e.2
      · omega
    exact hp8 _ _ _ ⟨sf.bd, by have := sf.len; have := t.len; omega, ⟨t.r0, t.r1⟩, by have := t.b0; omega, by have := t.b1; omega⟩
  case g23 =>
    intro hl _ he _ hk
    have t := facts hl
    have sf : SF T S b r := by
      rcases t.sh with e | e
      · exact e.2
      · omega
    rw [kps_t sf.kp] at hk
    cases hk
  case g24 =>
    intro hl _ he _ _
    have t := facts hl
    have sf : SF T S b r := by
      rcases t.sh with e | e
      · exact e.2
      · omega
    exact hp8 _ _ _ ⟨fun j hj => by have := t.bd j hj; omega, by have := t.len; omega, ⟨t.r0, t.r1⟩, by have := t.b0; omega, by have := t.b1; omega⟩
  case g25 =>
    intro hl _ he _ _ hk
    have t := facts hl
    have sf : SF T S b r := by
      rcases t.sh with e | e
      · exact e.2
      · omega
    have e := sf.same (kps_of hk)
    rw [← e]
    exact hp12 _
  case g26 =>
    intro _ _ _ _ _ _ hk
    cases hk
  case i0 | i5 =>
    intro hl _ he
    intros
    have t := facts hl
    have sf : SF T S b r := by
      rcases t.sh with e | e
      · exact e.2
      · omega
    exact ⟨0, rfl, by omega, oth_0, t, sf⟩
  all_goals
    intro o i hI
    obtain ⟨q, hq, hql, ot, t, sf⟩ := hI
    subst hq
    have tl := t.len
    have ol := ot.len
    have sl := sf.len
    (try simp only [Int.toNat_natCast])
  case i4 | i9 =>
    intros; exact ⟨0, rfl, by omega⟩
  case g28 | g29 | g30 | g135 | g136 | g137 =>
    intros; omega
  case g32 | g33 | g34 | g35 | g36 | g37 | g38 | g139 | g140 | g141 | g142 | g143 | g144 | g145 =>
    intros
    have hx := oth_x hu3 q (by omega)
    have hT := t.bd q (by omega)
    generalize Int.tmod (q : Int) a3.length = m at hx ⊢
    (try generalize Int.tmod (tI a3 m.toNat) 9 = e at hx ⊢)
    omega
  case n39 | n146 =>
    intros
    have hx := oth_x hu3 q (by omega)
    simp only [J1, Int.toNat_natCast]
    omega
  case n40 | n147 =>
    intros
    simp only [J1, Int.toNat_natCast]
    omega
  case g42 | g43 | g44 | g45 | g149 | g150 | g151 | g152 =>
    intros; omega
  case n46 | n153 =>
    intro x hx
    have hx : tI T q ≤ x ∧ x ≤ tI T q + 8 := hx
    intros
    have hT := t.bd q (by omega)
    have ho := ot.bd (q - 1) (by omega)
    have hm : x ≤ mxI x (tI o (((q : Int) - 1).toNat)) ∧ tI o (q - 1) ≤ mxI x (tI o (((q : Int) - 1).toNat)) ∧ (mxI x (tI o (((q : Int) - 1).toNat)) = x ∨ mxI x (tI o (((q : Int) - 1).toNat)) = tI o (q - 1)) := by
      rw [show ((q : Int) - 1).toNat = q - 1 by omega, mxI_eq]; omega
    generalize mxI x (tI o (((q : Int) - 1).toNat)) = m at hm ⊢
    intro q' e
    obtain rfl : q = q' := by omega
    refine ⟨by omega, fun p hp => ?_, by omega⟩
    have := ot.mono (q - 1) (by omega) p (by omega)
    omega
  case n47 | n154 =>
    intro x hx
    have hx : tI T q ≤ x ∧ x ≤ tI T q + 8 := hx
    intros
    have hT := t.bd q (by omega)
    intro q' e
    obtain rfl : q = q' := by omega
    exact ⟨by omega, fun p hp => by omega, by omega⟩
  case g48 | g155 =>
    intros; simp only [List.length_cons, List.length_nil]; omega
  case i3 | i8 =>
    intro x _ y hy
    intros
    exact ⟨0, y, rfl, by omega, rfl, hy⟩
  case g88 | g195 =>
    intros; omega
  case n89 | n196 =>
    intro x _ y _ k z hz
    obtain ⟨p, X, hk, hpi, hz', hX⟩ := hz
    subst hk hz'
    have hX := hX q rfl
    have hX1 := hX.1
    have hX2 := hX.2.2
    have e1 : tI (o ++ [[.i X]]) q = X := by have := tI_new (out := o) (T := X); rwa [ol] at this
    have r0 := t.r0
    have r1 := t.r1
    have b0 := t.b0
    have b1 := t.b1
    (try simp only [Int.toNat_natCast, e1, List.length_append, List.length_cons, List.length_nil])
    intros
    have hT := t.bd q (by omega)
    exact ⟨⟨q + 1, by omega, by omega, ot.push (by omega) hX1 (fun p e => hX.2.1 p (by omega)) (by omega), t, sf⟩, by omega⟩
  case n85 | n87 | n192 | n194 =>
    intro x _ y _ k z hz
    obtain ⟨p, X, hk, hpi, hz', hX⟩ := hz
    subst hk hz'
    have hX := hX q rfl
    have hX1 := hX.1
    have hX2 := hX.2.2
    have e1 : tI (o ++ [[.i X]]) q = X := by have := tI_new (out := o) (T := X); rwa [ol] at this
    have r0 := t.r0
    have r1 := t.r1
    have b0 := t.b0
    have b1 := t.b1
    (try simp only [Int.toNat_natCast, e1, List.length_append, List.length_cons, List.length_nil])
    intros
    exact ⟨⟨p + 1, X, by omega, by omega, rfl, fun q' e => by obtain rfl : q = q' := (by omega); exact hX⟩, by omega⟩
  case n83 | n190 =>
    intro x _ y _ k z hz
    obtain ⟨p, X, hk, hpi, hz', hX⟩ := hz
    subst hk hz'
    have hX := hX q rfl
    have hX1 := hX.1
    have hX2 := hX.2.2
    have e1 : tI (o ++ [[.i X]]) q = X := by have := tI_new (out := o) (T := X); rwa [ol] at this
    have r0 := t.r0
    have r1 := t.r1
    have b0 := t.b0
    have b1 := t.b1
    (try simp only [Int.toNat_natCast, e1, List.length_append, List.length_cons, List.length_nil])
    intros
    rename_i hr hh
    have e2 : tI (o ++ [[.i X]]) p = tI o p := tI_old (by omega)
    have c1 := hX.2.1 p (by omega)
    have c2 := ot.bd p (by omega)
    have c3 := mulN t.r0 t.r1 (w := (X - tI o p) + 1) (N := 3200000) (by omega) (by omega)
    (try simp only [e2] at hh ⊢)
    have rs := raise (N := 1024 * (((q : Int) - p) + 1)) hr t.r1 t.b0 (by omega) c1 hh
    generalize Int.tdiv (((1024 * (((q : Int) - p) + 1) - b) + r) - 1) r = d at rs ⊢
    rw [set_last o _ _ ol]
    refine ⟨⟨p + 1, _, by omega, by omega, rfl, fun q' e => ?_⟩, by omega⟩
    obtain rfl : q = q' := by omega
    refine ⟨by omega, fun p' hp => ?_, by omega⟩
    have := hX.2.1 p' hp
    omega
  case g77 | g78 | g184 | g185 =>
    intro x _ y _ k z hz
    obtain ⟨p, X, hk, hpi, hz', hX⟩ := hz
    subst hk hz'
    have hX := hX q rfl
    have hX1 := hX.1
    have hX2 := hX.2.2
    have e1 : tI (o ++ [[.i X]]) q = X := by have := tI_new (out := o) (T := X); rwa [ol] at this
    have r0 := t.r0
    have r1 := t.r1
    have b0 := t.b0
    have b1 := t.b1
    (try simp only [Int.toNat_natCast, e1, List.length_append, List.length_cons, List.length_nil])
    intros
    rename_i hr hh
    have e2 : tI (o ++ [[.i X]]) p = tI o p := tI_old (by omega)
    have c1 := hX.2.1 p (by omega)
    have c2 := ot.bd p (by omega)
    have c3 := mulN t.r0 t.r1 (w := (X - tI o p) + 1) (N := 3200000) (by omega) (by omega)
    (try simp only [e2] at hh ⊢)
    have rs := raise (N := 1024 * (((q : Int) - p) + 1)) hr t.r1 t.b0 (by omega) c1 hh
    generalize Int.tdiv (((1024 * (((q : Int) - p) + 1) - b) + r) - 1) r = d at rs ⊢
    omega
  case g50 | g51 | g52 | g53 | g54 | g55 | g57 | g58 | g59 | g61 | g62 | g63 | g64 | g65 | g66 | g67 | g69 | g70 | g71 | g72 | g73 | g74 | g75 | g76 | g79 | g80 | g81 | g82 | g84 | g86 | g157 | g158 | g159 | g160 | g161 | g162 | g164 | g165 | g166 | g168 | g169 | g170 | g171 | g172 | g173 | g174 | g176 | g177 | g178 | g179 | g180 | g181 | g182 | g183 | g186 | g187 | g188 | g189 | g191 | g193 =>
    intro x _ y _ k z hz
    obtain ⟨p, X, hk, hpi, hz', hX⟩ := hz
    subst hk hz'
    have hX := hX q rfl
    have hX1 := hX.1
    have hX2 := hX.2.2
    have e1 : tI (o ++ [[.i X]]) q = X := by have := tI_new (out := o) (T := X); rwa [ol] at this
    have r0 := t.r0
    have r1 := t.r1
    have b0 := t.b0
    have b1 := t.b1
    (try simp only [Int.toNat_natCast, e1, List.length_append, List.length_cons, List.length_nil])
    intros
    have e2 : tI (o ++ [[.i X]]) p = tI o p := tI_old (by omega)
    have c1 := hX.2.1 p (by omega)
    have c2 := ot.bd p (by omega)
    have c3 := mulN t.r0 t.r1 (w := (X - tI o p) + 1) (N := 3200000) (by omega) (by omega)
    (try simp only [e2])
    (try generalize r * ((X - tI o p) + 1) = w at c3 ⊢)
    omega
  case g106 | g119 | g213 | g226 =>
    intros; exact hp8 _ _ _ (oth_ok t hql ot)
  case n116 | n118 | n129 | n131 | n223 | n225 | n236 | n238 =>
    intro u j hj
    obtain ⟨p, hp, hpl⟩ := hj
    subst hp
    (try simp only [Int.toNat_natCast])
    intros; exact ⟨⟨p + 1, by omega, by omega⟩, by omega⟩
  case g97 | g204 =>
    intro u j hj
    obtain ⟨p, hp, hpl⟩ := hj
    subst hp
    (try simp only [Int.toNat_natCast])
    intros; exfalso; have := sf.ge p (by omega); omega
  case g105 | g212 =>
    intro u j hj
    obtain ⟨p, hp, hpl⟩ := hj
    subst hp
    (try simp only [Int.toNat_natCast])
    intros; exfalso; have := sf.up (p - 1) (by omega)
    rename_i h
    rw [show ((p : Int) - 1).toNat = p - 1 by omega] at h
    rw [show p - 1 + 1 = p by omega] at this
    omega
  case g114 | g127 | g221 | g234 =>
    intro u j hj
    obtain ⟨p, hp, hpl⟩ := hj
    subst hp
    (try simp only [Int.toNat_natCast])
    intros; exfalso
    rename_i hk hh
    have hqT : q = T.length := by omega
    have := sf.min o (by omega) (fun i h => ot.ge i (by omega)) (fun i h => ot.up i (by omega)) (kps_of hk) p (by omega)
    omega
  case g132 | g239 =>
    intros; exact hp5
  case g133 | g240 =>
    intros; exact hR
  case g91 | g92 | g93 | g95 | g96 | g98 | g99 | g100 | g101 | g102 | g103 | g104 | g107 | g108 | g109 | g112 | g113 | g115 | g117 | g120 | g121 | g122 | g125 | g126 | g128 | g130 | g198 | g199 | g200 | g202 | g203 | g205 | g206 | g207 | g208 | g209 | g210 | g211 | g214 | g215 | g216 | g219 | g220 | g222 | g224 | g227 | g228 | g229 | g232 | g233 | g235 | g237 =>
    intro u j hj
    obtain ⟨p, hp, hpl⟩ := hj
    subst hp
    (try simp only [Int.toNat_natCast])
    intros; omega
end HX

namespace HX
open Go Go.Proofs CX
set_option maxHeartbeats 4000000 in
set_option maxRecDepth 100000 in
theorem walk6 {ro A pre fn} (hE : EnvOk ⟨A, (cxE ro), ksF, sigL [], pre, fn⟩) {P : List (List D) → Prop} {res : List (List D) → Nat → Nat → D}
    (hv : ∀ (a0 : Rows), ShR [.int .u8] a0 → P [[.l a0]] → ∃ (I0 : Int → Rows → Int → Prop) (m0 : Int → Rows → Int → Nat), V6 a0 (res [[.l a0]]) I0 m0) :
    PureC (cxE ro) 6 ⟨[(false, [.sl [.int .u8]])], [(false, [.sl [.int .i64]])], false⟩ P res := by
  have hA := hE.A
  simp only [] at hA
  have hinl : ∀ f fn, inlL [] f = some fn → (cxE ro).fn f = some fn ∧ (cxE ro).ext f = none := Inls.ok (by repeat (first | exact .nil | refine .cons rfl rfl ?_))
  refine PureC.of_vc hE hinl 6 (f := 6) (fn := Try.f6) ⟨rfl, rfl⟩ ?_
  intro a0 ha0 hP
  obtain ⟨R, hR⟩ : ∃ R, res [[.l a0]] = R := ⟨_, rfl⟩
  rw [hR]
  obtain ⟨I0, m0, hV⟩ := hv a0 ha0 hP
  rw [hR] at hV
  clear hR hP hv
  cbv
  repeat' (first | (refine Br.mk (fun _ => ?_) (fun _ => ?_) <;> cbv) | (refine NilB.mk (fun _ => ?_) ?_ <;> cbv) | refine And.intro ?_ ?_ | exact True.intro)
  · refine Leaf.gen fun σz hσz => ?_
    refine loopB hE hinl 6 [] [] [] (fun x : Int × Rows × Int => [.i x.1, .l x.2.1, .i x.2.2]) (fun x => I0 x.1 x.2.1 x.2.2) (fun x => m0 x.1 x.2.1 x.2.2) (0, [], 0) (by subst hA; exact hV.i0) ?_ ?_ <;> subst hσz
    · clear hE hinl hV; cbv; (try (repeat' (first | exact True.intro | rfl | assumption | apply And.intro)))
    · intro ⟨x0_0, x0_1, x0_2⟩ hI0 K0 hK0
      cbv
      repeat' (first | (refine Br.mk (fun _ => ?_) (fun _ => ?_) <;> cbv) | (refine NilB.mk (fun _ => ?_) ?_ <;> cbv) | refine And.intro ?_ ?_ | exact True.intro)
      · rename_i hp1_0
        subst hA; exact hV.g1 _ _ _ hI0 (dt hp1_0)
      · rename_i hp2_0
        subst hA; exact hV.g2 _ _ _ hI0 (dt hp2_0)
      · rename_i hp3_0
        subst hA; exact hV.g3 _ _ _ hI0 (dt hp3_0)
      · rename_i hp4_0
        subst hA; exact hV.g4 _ _ _ hI0 (dt hp4_0)
      · rename_i hp5_0
        subst hA; exact hV.g5 _ _ _ hI0 (dt hp5_0)
      · rename_i hp6_0
        subst hA; exact hV.g6 _ _ _ hI0 (dt hp6_0)
      · rename_i hp7_0
        subst hA; exact hV.g7 _ _ _ hI0 (dt hp7_0)
      · rename_i hp8_0
        subst hA; exact hV.g8 _ _ _ hI0 (dt hp8_0)
      · rename_i hp9_0
        refine hK0 (A.add x0_0 (A.tmod (A.di (A.get a0 (A.toNat x0_2) 0)) 7), A.app x0_1 [[D.i (A.add x0_0 (A.tmod (A.di (A.get a0 (A.toNat x0_2) 0)) 7))]], A.add x0_2 1) _ ?_ ?_ ?_
        · subst hA; exact (hV.n9 _ _ _ hI0 (dt hp9_0)).1
        · subst hA; exact (hV.n9 _ _ _ hI0 (dt hp9_0)).2
        · clear hE hinl hV hK0; cbv; (try (repeat' (first | exact True.intro | rfl | assumption | apply And.intro)))
      · rename_i hp10_0
        subst hA; exact hV.g10 _ _ _ hI0 (df hp10_0)
end HX

namespace HX
open Go Go.Proofs CX
set_option maxHeartbeats 4000000 in
set_option maxRecDepth 100000 in
theorem walk8 {ro A pre fn} (hE : EnvOk ⟨A, (cxE ro), ksF, sigL [], pre, fn⟩) {P : List (List D) → Prop} {res : List (List D) → Nat → Nat → D}
    (hv : ∀ (a0 : Rows) (a1_0 : Int) (a1_1 : Int), ShR [.int .i64] a0 → P [[.l a0], [.i a1_0, .i a1_1]] → ∃ (I0 : Bool → Int → Prop) (m0 : Bool → Int → Nat) (I1 : Bool → Int → Bool → Int → Prop) (m1 : Bool → Int → Bool → Int → Nat), V8 a0 a1_0 a1_1 (res [[.l a0], [.i a1_0, .i a1_1]]) I0 m0 I1 m1) :
    PureC (cxE ro) 8 ⟨[(false, [.sl [.int .i64]]), (true, [.int .i64, .int .i64])], [(false, [.bool])], false⟩ P res := by
  have hA := hE.A
  simp only [] at hA
  have hinl : ∀ f fn, inlL [] f = some fn → (cxE ro).fn f = some fn ∧ (cxE ro).ext f = none := Inls.ok (by repeat (first | exact .nil | refine .cons rfl rfl ?_))
  refine PureC.of_vc hE hinl 6 (f := 8) (fn := Try.f8) ⟨rfl, rfl⟩ ?_
  intro a0 ha0 a1_0 a1_1 hP
  obtain ⟨R, hR⟩ : ∃ R, res [[.l a0], [.i a1_0, .i a1_1]] = R := ⟨_, rfl⟩
  rw [hR]
  obtain ⟨I0, m0, I1, m1, hV⟩ := hv a0 a1_0 a1_1 ha0 hP
  rw [hR] at hV
  clear hR hP hv
  cbv
  repeat' (first | (refine Br.mk (fun _ => ?_) (fun _ => ?_) <;> cbv) | (refine NilB.mk (fun _ => ?_) ?_ <;> cbv) | refine And.intro ?_ ?_ | exact True.intro)
  · refine Leaf.gen fun σz hσz => ?_
    refine loopB hE hinl 6 [] [] [] (fun x : Bool × Int => [.b x.1, .i x.2]) (fun x => I0 x.1 x.2) (fun x => m0 x.1 x.2) (false, 0) (by subst hA; exact hV.i0) ?_ ?_ <;> subst hσz
    · clear hE hinl hV; cbv; (try (repeat' (first | exact True.intro | rfl | assumption | apply And.intro)))
    · intro ⟨x0_0, x0_1⟩ hI0 K0 hK0
      cbv
      repeat' (first | (refine Br.mk (fun _ => ?_) (fun _ => ?_) <;> cbv) | (refine NilB.mk (fun _ => ?_) ?_ <;> cbv) | refine And.intro ?_ ?_ | exact True.intro)
      · rename_i hp1_0
        refine Leaf.gen fun σz hσz => ?_
        refine loopB hE hinl 6 [] [] [] (fun x : Bool × Int => [.b x.1, .i x.2]) (fun x => I1 x0_0 x0_1 x.1 x.2) (fun x => m1 x0_0 x0_1 x.1 x.2) (x0_0, x0_1) (by subst hA; exact hV.i1 _ _ hI0 (dt hp1_0)) ?_ ?_ <;> subst hσz
        · clear hE hinl hV; cbv; (try (repeat' (first | exact True.intro | rfl | assumption | apply And.intro)))
        · intro ⟨x1_0, x1_1⟩ hI1 K1 hK1
          cbv
          repeat' (first | (refine Br.mk (fun _ => ?_) (fun _ => ?_) <;> cbv) | (refine NilB.mk (fun _ => ?_) ?_ <;> cbv) | refine And.intro ?_ ?_ | exact True.intro)
          · rename_i hp2_0
            subst hA; exact hV.g2 _ _ hI0 _ _ hI1 (dt hp1_0) (dt hp2_0)
          · rename_i hp3_0
            subst hA; exact hV.g3 _ _ hI0 _ _ hI1 (dt hp1_0) (dt hp3_0)
          · rename_i hp4_0
            subst hA; exact hV.g4 _ _ hI0 _ _ hI1 (dt hp1_0) (dt hp4_0)
          · rename_i hp5_0
            subst hA; exact hV.g5 _ _ hI0 _ _ hI1 (dt hp1_0) (dt hp5_0)
          · rename_i hp6_0
            subst hA; exact hV.g6 _ _ hI0 _ _ hI1 (dt hp1_0) (dt hp6_0)
          · rename_i hp7_0
            subst hA; exact hV.g7 _ _ hI0 _ _ hI1 (dt hp1_0) (dt hp7_0)
          · rename_i hp8_0
            subst hA; exact hV.g8 _ _ hI0 _ _ hI1 (dt hp1_0) (dt hp8_0)
          · rename_i hp9_0
            subst hA; exact hV.g9 _ _ hI0 _ _ hI1 (dt hp1_0) (dt hp9_0)
          · rename_i hp10_0
            subst hA; exact hV.g10 _ _ hI0 _ _ hI1 (dt hp1_0) (dt hp10_0)
          · rename_i hp11_0
            subst hA; exact hV.g11 _ _ hI0 _ _ hI1 (dt hp1_0) (dt hp11_0)
          · rename_i hp12_0
            subst hA; exact hV.g12 _ _ hI0 _ _ hI1 (dt hp1_0) (dt hp12_0)
          · rename_i hp13_0
            subst hA; exact hV.g13 _ _ hI0 _ _ hI1 (dt hp1_0) (dt hp13_0)
          · rename_i hp14_0
            subst hA; exact hV.g14 _ _ hI0 _ _ hI1 (dt hp1_0) (dt hp14_0)
          · rename_i hp15_0 hp15_1
            subst hA; exact hV.g15 _ _ hI0 _ _ hI1 (dt hp1_0) (dt hp15_0) (dt hp15_1)
          · rename_i hp16_0 hp16_1
            subst hA; exact hV.g16 _ _ hI0 _ _ hI1 (dt hp1_0) (dt hp16_0) (df hp16_1)
          · rename_i hp17_0 hp17_1
            refine hK1 (x1_0, A.add x1_1 1) _ ?_ ?_ ?_
            · subst hA; exact (hV.n17 _ _ hI0 _ _ hI1 (dt hp1_0) (dt hp17_0) (df hp17_1)).1
            · subst hA; exact (hV.n17 _ _ hI0 _ _ hI1 (dt hp1_0) (dt hp17_0) (df hp17_1)).2
            · clear hE hinl hV hK1; cbv; (try (repeat' (first | exact True.intro | rfl | assumption | apply And.intro)))
          · rename_i hp18_0
            subst hA; exact hV.g18 _ _ hI0 _ _ hI1 (dt hp1_0) (df hp18_0)
          · rename_i hp19_0
            refine hK0 (x1_0, A.add x0_1 1) _ ?_ ?_ ?_
            · subst hA; exact (hV.n19 _ _ hI0 _ _ hI1 (dt hp1_0) (df hp19_0)).1
            · subst hA; exact (hV.n19 _ _ hI0 _ _ hI1 (dt hp1_0) (df hp19_0)).2
            · clear hE hinl hV hK0; cbv; (try (repeat' (first | exact True.intro | rfl | assumption | apply And.intro)))
      · rename_i hp20_0
        subst hA; exact hV.g20 _ _ hI0 (df hp20_0)
end HX

namespace HX
open Go Go.Proofs CX
set_option maxHeartbeats 4000000 in
set_option maxRecDepth 100000 in
theorem walk9 {ro A pre fn} (hE : EnvOk ⟨A, (cxE ro), ksF, sigL [], pre, fn⟩) {P : List (List D) → Prop} {res : List (List D) → Nat → Nat → D}
    (hv : ∀ (a0 : Int) (a1 : Int), P [[.i a0], [.i a1]] → V9 a0 a1 (res [[.i a0], [.i a1]]) ) :
    PureC (cxE ro) 9 ⟨[(false, [.int .i64]), (false, [.int .i64])], [(true, [.int .i64, .int .i64])], false⟩ P res := by
  have hA := hE.A
  simp only [] at hA
  have hinl : ∀ f fn, inlL [] f = some fn → (cxE ro).fn f = some fn ∧ (cxE ro).ext f = none := Inls.ok (by repeat (first | exact .nil | refine .cons rfl rfl ?_))
  refine PureC.of_vc hE hinl 6 (f := 9) (fn := Try.f9) ⟨rfl, rfl⟩ ?_
  intro a0 a1 hP
  obtain ⟨R, hR⟩ : ∃ R, res [[.i a0], [.i a1]] = R := ⟨_, rfl⟩
  rw [hR]
  have hV := hv a0 a1  hP
  rw [hR] at hV
  clear hR hP hv
  cbv
  repeat' (first | (refine Br.mk (fun _ => ?_) (fun _ => ?_) <;> cbv) | (refine NilB.mk (fun _ => ?_) ?_ <;> cbv) | refine And.intro ?_ ?_ | exact True.intro)
  · subst hA; exact hV.g0
  · subst hA; exact hV.g1
end HX

namespace HX
open Go Go.Proofs CX
set_option maxHeartbeats 4000000 in
set_option maxRecDepth 100000 in
theorem walk21 {ro A pre fn} (hE : EnvOk ⟨A, (cxE ro), ksF, sigL [], pre, fn⟩) {P : List (List D) → Prop} {res : List (List D) → Nat → Nat → D}
    (hv : ∀ (a0 : Rows), ShR [.int .i64, .int .i64] a0 → P [[.l a0]] → ∃ (I0 : Int → Int → Prop) (m0 : Int → Int → Nat), V21 a0 (res [[.l a0]]) I0 m0) :
    PureC (cxE ro) 21 ⟨[(false, [.sl [.int .i64, .int .i64]])], [(false, [.int .i64])], false⟩ P res := by
  have hA := hE.A
  simp only [] at hA
  have hinl : ∀ f fn, inlL [] f = some fn → (cxE ro).fn f = some fn ∧ (cxE ro).ext f = none := Inls.ok (by repeat (first | exact .nil | refine .cons rfl rfl ?_))
  refine PureC.of_vc hE hinl 6 (f := 21) (fn := Try.f21) ⟨rfl, rfl⟩ ?_
  intro a0 ha0 hP
  obtain ⟨R, hR⟩ : ∃ R, res [[.l a0]] = R := ⟨_, rfl⟩
  rw [hR]
  obtain ⟨I0, m0, hV⟩ := hv a0 ha0 hP
  rw [hR] at hV
  clear hR hP hv
  cbv
  repeat' (first | (refine Br.mk (fun _ => ?_) (fun _ => ?_) <;> cbv) | (refine NilB.mk (fun _ => ?_) ?_ <;> cbv) | refine And.intro ?_ ?_ | exact True.intro)
  · refine Leaf.gen fun σz hσz => ?_
    refine loopB hE hinl 6 [] [] [] (fun x : Int × Int => [.i x.1, .i x.2]) (fun x => I0 x.1 x.2) (fun x => m0 x.1 x.2) (0, 0) (by subst hA; exact hV.i0) ?_ ?_ <;> subst hσz
    · clear hE hinl hV; cbv; (try (repeat' (first | exact True.intro | rfl | assumption | apply And.intro)))
    · intro ⟨x0_0, x0_1⟩ hI0 K0 hK0
      cbv
      repeat' (first | (refine Br.mk (fun _ => ?_) (fun _ => ?_) <;> cbv) | (refine NilB.mk (fun _ => ?_) ?_ <;> cbv) | refine And.intro ?_ ?_ | exact True.intro)
      · rename_i hp1_0
        subst hA; exact hV.g1 _ _ hI0 (dt hp1_0)
      · rename_i hp2_0
        subst hA; exact hV.g2 _ _ hI0 (dt hp2_0)
      · rename_i hp3_0
        subst hA; exact hV.g3 _ _ hI0 (dt hp3_0)
      · rename_i hp4_0 hp4_1
        subst hA; exact hV.g4 _ _ hI0 (dt hp4_0) (dt hp4_1)
      · rename_i hp5_0 hp5_1 hp5_2
        subst hA; exact hV.g5 _ _ hI0 (dt hp5_0) (df hp5_1) (dt hp5_2)
      · rename_i hp6_0 hp6_1 hp6_2 hp6_3
        subst hA; exact hV.g6 _ _ hI0 (dt hp6_0) (df hp6_1) (df hp6_2) (dt hp6_3)
      · rename_i hp7_0 hp7_1 hp7_2 hp7_3 hp7_4
        subst hA; exact hV.g7 _ _ hI0 (dt hp7_0) (df hp7_1) (df hp7_2) (df hp7_3) (dt hp7_4)
      · rename_i hp8_0 hp8_1 hp8_2 hp8_3 hp8_4
        subst hA; exact hV.g8 _ _ hI0 (dt hp8_0) (df hp8_1) (df hp8_2) (df hp8_3) (df hp8_4)
      · rename_i hp9_0 hp9_1 hp9_2 hp9_3 hp9_4
        refine hK0 (x0_0, A.add x0_1 1) _ ?_ ?_ ?_
        · subst hA; exact (hV.n9 _ _ hI0 (dt hp9_0) (df hp9_1) (df hp9_2) (df hp9_3) (df hp9_4)).1
        · subst hA; exact (hV.n9 _ _ hI0 (dt hp9_0) (df hp9_1) (df hp9_2) (df hp9_3) (df hp9_4)).2
        · clear hE hinl hV hK0; cbv; (try (repeat' (first | exact True.intro | rfl | assumption | apply And.intro)))
      · rename_i hp10_0
        subst hA; exact hV.g10 _ _ hI0 (df hp10_0)
end HX

namespace HX
open Go Go.Proofs CX
set_option maxHeartbeats 4000000 in
set_option maxRecDepth 100000 in
theorem walk20 {ro A pre fn} (hE : EnvOk ⟨A, (cxE ro), ksF, sigL [(21, ⟨[(false, [.sl [.int .i64, .int .i64]])], [(false, [.int .i64])], false⟩)], pre, fn⟩) {P : List (List D) → Prop} {res : List (List D) → Nat → Nat → D}
    (hv : ∀ (a0_0 : Int) (a0_1 : Int), P [[.i a0_0, .i a0_1]] → V20 pre fn a0_0 a0_1 (res [[.i a0_0, .i a0_1]]) ) :
    PureC (cxE ro) 20 ⟨[(true, [.int .i64, .int .i64])], [(false, [.int .i64])], false⟩ P res := by
  have hA := hE.A
  simp only [] at hA
  have hinl : ∀ f fn, inlL [] f = some fn → (cxE ro).fn f = some fn ∧ (cxE ro).ext f = none := Inls.ok (by repeat (first | exact .nil | refine .cons rfl rfl ?_))
  refine PureC.of_vc hE hinl 6 (f := 20) (fn := Try.f20) ⟨rfl, rfl⟩ ?_
  intro a0_0 a0_1 hP
  obtain ⟨R, hR⟩ : ∃ R, res [[.i a0_0, .i a0_1]] = R := ⟨_, rfl⟩
  rw [hR]
  have hV := hv a0_0 a0_1  hP
  rw [hR] at hV
  clear hR hP hv
  cbv
  repeat' (first | (refine Br.mk (fun _ => ?_) (fun _ => ?_) <;> cbv) | (refine NilB.mk (fun _ => ?_) ?_ <;> cbv) | refine And.intro ?_ ?_ | exact True.intro)
  · subst hA; exact hV.g0
  · subst hA; exact hV.g1
end HX

namespace HX
open Go Go.Proofs CX
set_option maxHeartbeats 4000000 in
set_option maxRecDepth 100000 in
theorem walk38 {ro A pre fn} (hE : EnvOk ⟨A, (cxE ro), ksF, sigL [], pre, fn⟩) {P : List (List D) → Prop} {res : List (List D) → Nat → Nat → D}
    (hv : ∀ (a0 : Rows), ShR [.int .i64] a0 → P [[.l a0]] → ∃ (I0 : Bool → Int → Prop) (m0 : Bool → Int → Nat), V38 a0 (res [[.l a0]]) I0 m0) :
    PureC (cxE ro) 38 ⟨[(false, [.sl [.int .i64]])], [(false, [.bool])], false⟩ P res := by
  have hA := hE.A
  simp only [] at hA
  have hinl : ∀ f fn, inlL [(51, Try.f51), (66, Try.f66)] f = some fn → (cxE ro).fn f = some fn ∧ (cxE ro).ext f = none := Inls.ok (by repeat (first | exact .nil | refine .cons rfl rfl ?_))
  refine PureC.of_vc hE hinl 6 (f := 38) (fn := Try.f38) ⟨rfl, rfl⟩ ?_
  intro a0 ha0 hP
  obtain ⟨R, hR⟩ : ∃ R, res [[.l a0]] = R := ⟨_, rfl⟩
  rw [hR]
  obtain ⟨I0, m0, hV⟩ := hv a0 ha0 hP
  rw [hR] at hV
  clear hR hP hv
  cbv
  repeat' (first | (refine Br.mk (fun _ => ?_) (fun _ => ?_) <;> cbv) | (refine NilB.mk (fun _ => ?_) ?_ <;> cbv) | refine And.intro ?_ ?_ | exact True.intro)
  · subst hA; exact hV.g0
  · refine Leaf.gen fun σz hσz => ?_
    refine loopB hE hinl 6 [] [] [] (fun x : Bool × Int => [.b x.1, .i x.2]) (fun x => I0 x.1 x.2) (fun x => m0 x.1 x.2) (false, A.sub (A.nat (A.len a0)) 1) (by subst hA; exact hV.i0) ?_ ?_ <;> subst hσz
    · clear hE hinl hV; cbv; (try (repeat' (first | exact True.intro | rfl | assumption | apply And.intro)))
    · intro ⟨x0_0, x0_1⟩ hI0 K0 hK0
      cbv
      repeat' (first | (refine Br.mk (fun _ => ?_) (fun _ => ?_) <;> cbv) | (refine NilB.mk (fun _ => ?_) ?_ <;> cbv) | refine And.intro ?_ ?_ | exact True.intro)
      · rename_i hp2_0
        subst hA; exact hV.g2 _ _ hI0 (dt hp2_0)
      · rename_i hp3_0
        subst hA; exact hV.g3 _ _ hI0 (dt hp3_0)
      · rename_i hp4_0
        subst hA; exact hV.g4 _ _ hI0 (dt hp4_0)
      · rename_i hp5_0
        subst hA; exact hV.g5 _ _ hI0 (dt hp5_0)
      · rename_i hp6_0
        subst hA; exact hV.g6 _ _ hI0 (dt hp6_0)
      · rename_i hp7_0
        subst hA; exact hV.g7 _ _ hI0 (dt hp7_0)
      · rename_i hp8_0
        subst hA; exact hV.g8 _ _ hI0 (dt hp8_0)
      · rename_i hp9_0 hp9_1 hp9_2
        subst hA; exact hV.g9 _ _ hI0 (dt hp9_0) (df (nt hp9_1)) (dt (nf (nt hp9_2)))
      · rename_i hp10_0 hp10_1 hp10_2 hp10_3
        subst hA; exact hV.g10 _ _ hI0 (dt hp10_0) (df (nt hp10_1)) (df (nt (nf hp10_2))) (dt hp10_3)
      · rename_i hp11_0 hp11_1 hp11_2 hp11_3
        subst hA; exact hV.g11 _ _ hI0 (dt hp11_0) (df (nt hp11_1)) (df (nt (nf hp11_2))) (df hp11_3)
      · rename_i hp12_0 hp12_1 hp12_2 hp12_3
        refine hK0 (x0_0, A.sub x0_1 1) _ ?_ ?_ ?_
        · subst hA; exact (hV.n12 _ _ hI0 (dt hp12_0) (df (nt hp12_1)) (df (nt (nf hp12_2))) (df hp12_3)).1
        · subst hA; exact (hV.n12 _ _ hI0 (dt hp12_0) (df (nt hp12_1)) (df (nt (nf hp12_2))) (df hp12_3)).2
        · clear hE hinl hV hK0; cbv; (try (repeat' (first | exact True.intro | rfl | assumption | apply And.intro)))
      · rename_i hp13_0 hp13_1 hp13_2
        subst hA; exact hV.g13 _ _ hI0 (dt hp13_0) (dt (nf hp13_1)) (dt hp13_2)
      · rename_i hp14_0 hp14_1 hp14_2
        subst hA; exact hV.g14 _ _ hI0 (dt hp14_0) (dt (nf hp14_1)) (df hp14_2)
      · rename_i hp15_0 hp15_1 hp15_2
        refine hK0 (x0_0, A.sub x0_1 1) _ ?_ ?_ ?_
        · subst hA; exact (hV.n15 _ _ hI0 (dt hp15_0) (dt (nf hp15_1)) (df hp15_2)).1
        · subst hA; exact (hV.n15 _ _ hI0 (dt hp15_0) (dt (nf hp15_1)) (df hp15_2)).2
        · clear hE hinl hV hK0; cbv; (try (repeat' (first | exact True.intro | rfl | assumption | apply And.intro)))
      · rename_i hp16_0
        subst hA; exact hV.g16 _ _ hI0 (df hp16_0)
end HX

namespace HX
open Go Go.Proofs CX
set_option maxHeartbeats 4000000 in
set_option maxRecDepth 100000 in
theorem walk18 {ro A pre fn} (hE : EnvOk ⟨A, (cxE ro), ksF, sigL [(38, ⟨[(false, [.sl [.int .i64]])], [(false, [.bool])], false⟩)], pre, fn⟩) {P : List (List D) → Prop} {res : List (List D) → Nat → Nat → D}
    (hv : ∀ (a0 : Rows), ShR [.int .i64] a0 → P [[.l a0]] → ∃ (I0 : Int → Int → Prop) (m0 : Int → Int → Nat), V18 pre fn a0 (res [[.l a0]]) I0 m0) :
    PureC (cxE ro) 18 ⟨[(false, [.sl [.int .i64]])], [(false, [.int .i64])], false⟩ P res := by
  have hA := hE.A
  simp only [] at hA
  have hinl : ∀ f fn, inlL [(36, Try.f36), (50, Try.f50), (37, Try.f37)] f = some fn → (cxE ro).fn f = some fn ∧ (cxE ro).ext f = none := Inls.ok (by repeat (first | exact .nil | refine .cons rfl rfl ?_))
  refine PureC.of_vc hE hinl 6 (f := 18) (fn := Try.f18) ⟨rfl, rfl⟩ ?_
  intro a0 ha0 hP
  obtain ⟨R, hR⟩ : ∃ R, res [[.l a0]] = R := ⟨_, rfl⟩
  rw [hR]
  obtain ⟨I0, m0, hV⟩ := hv a0 ha0 hP
  rw [hR] at hV
  clear hR hP hv
  cbv
  repeat' (first | (refine Br.mk (fun _ => ?_) (fun _ => ?_) <;> cbv) | (refine NilB.mk (fun _ => ?_) ?_ <;> cbv) | refine And.intro ?_ ?_ | exact True.intro)
  · rename_i hp0_0
    subst hA; exact hV.g0 (dt hp0_0)
  · rename_i hp1_0
    refine Leaf.gen fun σz hσz => ?_
    refine loopB hE hinl 6 [] [] [] (fun x : Int × Int => [.i x.1, .i x.2]) (fun x => I0 x.1 x.2) (fun x => m0 x.1 x.2) (0, 0) (by subst hA; exact hV.i0 (df hp1_0)) ?_ ?_ <;> subst hσz
    · clear hE hinl hV; cbv; (try (repeat' (first | exact True.intro | rfl | assumption | apply And.intro)))
    · intro ⟨x0_0, x0_1⟩ hI0 K0 hK0
      cbv
      repeat' (first | (refine Br.mk (fun _ => ?_) (fun _ => ?_) <;> cbv) | (refine NilB.mk (fun _ => ?_) ?_ <;> cbv) | refine And.intro ?_ ?_ | exact True.intro)
      · rename_i hp2_0
        subst hA; exact hV.g2 _ _ hI0 (df hp1_0) (dt hp2_0)
      · rename_i hp3_0
        subst hA; exact hV.g3 _ _ hI0 (df hp1_0) (dt hp3_0)
      · rename_i hp4_0
        subst hA; exact hV.g4 _ _ hI0 (df hp1_0) (dt hp4_0)
      · rename_i hp5_0 hp5_1 hp5_2
        subst hA; exact hV.g5 _ _ hI0 (df hp1_0) (dt hp5_0) (dt hp5_1) (dt hp5_2)
      · rename_i hp6_0 hp6_1 hp6_2
        subst hA; exact hV.g6 _ _ hI0 (df hp1_0) (dt hp6_0) (dt hp6_1) (df hp6_2)
      · rename_i hp7_0 hp7_1 hp7_2 hp7_3
        subst hA; exact hV.g7 _ _ hI0 (df hp1_0) (dt hp7_0) (dt hp7_1) (df hp7_2) (nt hp7_3)
      · rename_i hp8_0 hp8_1 hp8_2 hp8_3
        subst hA; exact hV.g8 _ _ hI0 (df hp1_0) (dt hp8_0) (dt hp8_1) (df hp8_2) (nf hp8_3)
      · rename_i hp9_0 hp9_1 hp9_2 hp9_3
        subst hA; exact hV.g9 _ _ hI0 (df hp1_0) (dt hp9_0) (df hp9_1) (dt hp9_2) (dt hp9_3)
      · rename_i hp10_0 hp10_1 hp10_2 hp10_3
        subst hA; exact hV.g10 _ _ hI0 (df hp1_0) (dt hp10_0) (df hp10_1) (dt hp10_2) (df hp10_3)
      · rename_i hp11_0 hp11_1 hp11_2 hp11_3 hp11_4
        subst hA; exact hV.g11 _ _ hI0 (df hp1_0) (dt hp11_0) (df hp11_1) (dt hp11_2) (df hp11_3) (nt hp11_4)
      · rename_i hp12_0 hp12_1 hp12_2 hp12_3 hp12_4
        subst hA; exact hV.g12 _ _ hI0 (df hp1_0) (dt hp12_0) (df hp12_1) (dt hp12_2) (df hp12_3) (nf hp12_4)
      · rename_i hp13_0 hp13_1 hp13_2
        subst hA; exact hV.g13 _ _ hI0 (df hp1_0) (dt hp13_0) (df hp13_1) (df hp13_2)
      · rename_i hp14_0 hp14_1 hp14_2
        refine hK0 (x0_0, A.add x0_1 1) _ ?_ ?_ ?_
        · subst hA; exact (hV.n14 _ _ hI0 (df hp1_0) (dt hp14_0) (df hp14_1) (df hp14_2)).1
        · subst hA; exact (hV.n14 _ _ hI0 (df hp1_0) (dt hp14_0) (df hp14_1) (df hp14_2)).2
        · clear hE hinl hV hK0; cbv; (try (repeat' (first | exact True.intro | rfl | assumption | apply And.intro)))
      · rename_i hp15_0 hp15_1
        exfalso; subst hA; simp [Ar.std] at hp15_1
      · rename_i hp16_0 hp16_1
        subst hA; exact hV.g16 _ _ hI0 (df hp1_0) (df hp16_0)
      · rename_i hp17_0 hp17_1 hp17_2
        subst hA; exact hV.g17 _ _ hI0 (df hp1_0) (df hp17_0) (nt hp17_2)
      · rename_i hp18_0 hp18_1 hp18_2
        subst hA; exact hV.g18 _ _ hI0 (df hp1_0) (df hp18_0) (nf hp18_2)
end HX

namespace HX
open Go Go.Proofs CX
set_option maxHeartbeats 4000000 in
set_option maxRecDepth 100000 in
theorem walk11 {ro A pre fn} (hE : EnvOk ⟨A, (cxE ro), ksF, sigL [(20, ⟨[(true, [.int .i64, .int .i64])], [(false, [.int .i64])], false⟩), (18, ⟨[(false, [.sl [.int .i64]])], [(false, [.int .i64])], false⟩)], pre, fn⟩) {P : List (List D) → Prop} {res : List (List D) → Nat → Nat → D}
    (hv : ∀ (a0 : Rows) (a1_0 : Int) (a1_1 : Int), ShR [.int .i64] a0 → P [[.l a0], [.i a1_0, .i a1_1]] → ∃ (I0 : Rows → Int → Int → Int → Prop) (m0 : Rows → Int → Int → Int → Nat), V11 pre fn a0 a1_0 a1_1 (res [[.l a0], [.i a1_0, .i a1_1]]) I0 m0) :
    PureC (cxE ro) 11 ⟨[(false, [.sl [.int .i64]]), (true, [.int .i64, .int .i64])], [(false, [.sl [.int .i64]]), (false, [.int .i64])], false⟩ P res := by
  have hA := hE.A
  simp only [] at hA
  have hinl : ∀ f fn, inlL [] f = some fn → (cxE ro).fn f = some fn ∧ (cxE ro).ext f = none := Inls.ok (by repeat (first | exact .nil | refine .cons rfl rfl ?_))
  refine PureC.of_vc hE hinl 6 (f := 11) (fn := Try.f11) ⟨rfl, rfl⟩ ?_
  intro a0 ha0 a1_0 a1_1 hP
  obtain ⟨R, hR⟩ : ∃ R, res [[.l a0], [.i a1_0, .i a1_1]] = R := ⟨_, rfl⟩
  rw [hR]
  obtain ⟨I0, m0, hV⟩ := hv a0 a1_0 a1_1 ha0 hP
  rw [hR] at hV
  clear hR hP hv
  cbv
  repeat' (first | (refine Br.mk (fun _ => ?_) (fun _ => ?_) <;> cbv) | (refine NilB.mk (fun _ => ?_) ?_ <;> cbv) | refine And.intro ?_ ?_ | exact True.intro)
  · subst hA; exact hV.g0
  · rename_i hp1_0
    subst hA; exact hV.g1 (df (nt hp1_0))
  · rename_i hp2_0
    subst hA; exact hV.g2 (df (nt hp2_0))
  · rename_i hp3_0
    subst hA; exact hV.g3 (dt (nf hp3_0))
  · rename_i hp4_0 hp4_1
    subst hA; exact hV.g4 (dt (nf hp4_0)) (df (nt hp4_1))
  · rename_i hp5_0 hp5_1
    subst hA; exact hV.g5 (dt (nf hp5_0)) (df (nt hp5_1))
  · rename_i hp6_0 hp6_1
    refine Leaf.gen fun σz hσz => ?_
    refine loopB hE hinl 6 [] [4, 5] [] (fun x : Rows × Int × Int × Int => [.l x.1, .i x.2.1, .i x.2.2.1, .i x.2.2.2]) (fun x => I0 x.1 x.2.1 x.2.2.1 x.2.2.2) (fun x => m0 x.1 x.2.1 x.2.2.1 x.2.2.2) ([], 0, 0, 0) (by subst hA; exact hV.i0 (dt (nf hp6_0)) (dt (nf hp6_1))) ?_ ?_ <;> subst hσz
    · clear hE hinl hV; cbv; (try (repeat' (first | exact True.intro | rfl | assumption | apply And.intro)))
    · intro ⟨x0_0, x0_1, x0_2, x0_3⟩ hI0 K0 hK0
      cbv
      repeat' (first | (refine Br.mk (fun _ => ?_) (fun _ => ?_) <;> cbv) | (refine NilB.mk (fun _ => ?_) ?_ <;> cbv) | refine And.intro ?_ ?_ | exact True.intro)
      · rename_i hp7_0
        subst hA; exact hV.g7 _ _ _ _ hI0 (dt (nf hp6_0)) (dt (nf hp6_1)) (dt hp7_0)
      · rename_i hp8_0
        subst hA; exact hV.g8 _ _ _ _ hI0 (dt (nf hp6_0)) (dt (nf hp6_1)) (dt hp8_0)
      · rename_i hp9_0
        subst hA; exact hV.g9 _ _ _ _ hI0 (dt (nf hp6_0)) (dt (nf hp6_1)) (dt hp9_0)
      · rename_i hp10_0
        subst hA; exact hV.g10 _ _ _ _ hI0 (dt (nf hp6_0)) (dt (nf hp6_1)) (dt hp10_0)
      · rename_i hp11_0
        subst hA; exact hV.g11 _ _ _ _ hI0 (dt (nf hp6_0)) (dt (nf hp6_1)) (dt hp11_0)
      · rename_i hp12_0
        subst hA; exact hV.g12 _ _ _ _ hI0 (dt (nf hp6_0)) (dt (nf hp6_1)) (dt hp12_0)
      · rename_i hp13_0
        subst hA; exact hV.g13 _ _ _ _ hI0 (dt (nf hp6_0)) (dt (nf hp6_1)) (dt hp13_0)
      · rename_i hp14_0
        subst hA; exact hV.g14 _ _ _ _ hI0 (dt (nf hp6_0)) (dt (nf hp6_1)) (dt hp14_0)
      · rename_i hp15_0
        subst hA; exact hV.g15 _ _ _ _ hI0 (dt (nf hp6_0)) (dt (nf hp6_1)) (dt hp15_0)
      · rename_i hp16_0 hp16_1 hp16_2
        subst hA; exact hV.g16 _ _ _ _ hI0 (dt (nf hp6_0)) (dt (nf hp6_1)) (dt hp16_0) (dt hp16_1) (dt hp16_2)
      · rename_i hp17_0 hp17_1 hp17_2
        subst hA; exact hV.g17 _ _ _ _ hI0 (dt (nf hp6_0)) (dt (nf hp6_1)) (dt hp17_0) (dt hp17_1) (dt hp17_2)
      · rename_i hp18_0 hp18_1 hp18_2
        subst hA; exact hV.g18 _ _ _ _ hI0 (dt (nf hp6_0)) (dt (nf hp6_1)) (dt hp18_0) (dt hp18_1) (df hp18_2)
      · rename_i hp19_0 hp19_1 hp19_2 hp19_3
        subst hA; exact hV.g19 _ _ _ _ hI0 (dt (nf hp6_0)) (dt (nf hp6_1)) (dt hp19_0) (dt hp19_1) (df hp19_2) (dt hp19_3)
      · rename_i hp20_0 hp20_1 hp20_2 hp20_3
        subst hA; exact hV.g20 _ _ _ _ hI0 (dt (nf hp6_0)) (dt (nf hp6_1)) (dt hp20_0) (dt hp20_1) (df hp20_2) (dt hp20_3)
      · rename_i hp21_0 hp21_1 hp21_2 hp21_3
        subst hA; exact hV.g21 _ _ _ _ hI0 (dt (nf hp6_0)) (dt (nf hp6_1)) (dt hp21_0) (dt hp21_1) (df hp21_2) (df hp21_3)
      · rename_i hp22_0 hp22_1 hp22_2 hp22_3
        subst hA; exact hV.g22 _ _ _ _ hI0 (dt (nf hp6_0)) (dt (nf hp6_1)) (dt hp22_0) (dt hp22_1) (df hp22_2) (df hp22_3)
      · rename_i hp23_0 hp23_1 hp23_2 hp23_3
        subst hA; exact hV.g23 _ _ _ _ hI0 (dt (nf hp6_0)) (dt (nf hp6_1)) (dt hp23_0) (dt hp23_1) (df hp23_2) (df hp23_3)
      · rename_i hp24_0 hp24_1 hp24_2 hp24_3
        subst hA; exact hV.g24 _ _ _ _ hI0 (dt (nf hp6_0)) (dt (nf hp6_1)) (dt hp24_0) (dt hp24_1) (df hp24_2) (df hp24_3)
      · rename_i hp25_0 hp25_1 hp25_2 hp25_3
        subst hA; exact hV.g25 _ _ _ _ hI0 (dt (nf hp6_0)) (dt (nf hp6_1)) (dt hp25_0) (dt hp25_1) (df hp25_2) (df hp25_3)
      · rename_i hp26_0 hp26_1 hp26_2 hp26_3
        subst hA; exact hV.g26 _ _ _ _ hI0 (dt (nf hp6_0)) (dt (nf hp6_1)) (dt hp26_0) (dt hp26_1) (df hp26_2) (df hp26_3)
      · rename_i hp27_0 hp27_1 hp27_2 hp27_3
        subst hA; exact hV.g27 _ _ _ _ hI0 (dt (nf hp6_0)) (dt (nf hp6_1)) (dt hp27_0) (dt hp27_1) (df hp27_2) (df hp27_3)
      · rename_i hp28_0 hp28_1 hp28_2 hp28_3
        subst hA; exact hV.g28 _ _ _ _ hI0 (dt (nf hp6_0)) (dt (nf hp6_1)) (dt hp28_0) (dt hp28_1) (df hp28_2) (df hp28_3)
      · rename_i hp29_0 hp29_1 hp29_2 hp29_3
        subst hA; exact hV.g29 _ _ _ _ hI0 (dt (nf hp6_0)) (dt (nf hp6_1)) (dt hp29_0) (dt hp29_1) (df hp29_2) (df hp29_3)
      · rename_i hp30_0 hp30_1 hp30_2 hp30_3
        subst hA; exact hV.g30 _ _ _ _ hI0 (dt (nf hp6_0)) (dt (nf hp6_1)) (dt hp30_0) (dt hp30_1) (df hp30_2) (df hp30_3)
      · rename_i hp31_0 hp31_1 hp31_2 hp31_3
        refine hK0 (A.app x0_0 [[D.i (A.add (A.max (A.di (A.get a0 (A.toNat x0_3) 0)) x0_2) (A.tdiv (A.sub (A.add (A.sub (A.sub (A.add (A.max 0 (A.sub x0_1 (A.mul a1_1 (A.sub (A.max (A.di (A.get a0 (A.toNat x0_3) 0)) x0_2) x0_2)))) 1024) a1_1) a1_0) a1_1) 1) a1_1))]], A.add (A.max 0 (A.sub (A.max 0 (A.sub x0_1 (A.mul a1_1 (A.sub (A.max (A.di (A.get a0 (A.toNat x0_3) 0)) x0_2) x0_2)))) (A.mul a1_1 (A.tdiv (A.sub (A.add (A.sub (A.sub (A.add (A.max 0 (A.sub x0_1 (A.mul a1_1 (A.sub (A.max (A.di (A.get a0 (A.toNat x0_3) 0)) x0_2) x0_2)))) 1024) a1_1) a1_0) a1_1) 1) a1_1)))) 1024, A.add (A.max (A.di (A.get a0 (A.toNat x0_3) 0)) x0_2) (A.tdiv (A.sub (A.add (A.sub (A.sub (A.add (A.max 0 (A.sub x0_1 (A.mul a1_1 (A.sub (A.max (A.di (A.get a0 (A.toNat x0_3) 0)) x0_2) x0_2)))) 1024) a1_1) a1_0) a1_1) 1) a1_1), A.add x0_3 1) _ ?_ ?_ ?_
        · subst hA; exact (hV.n31 _ _ _ _ hI0 (dt (nf hp6_0)) (dt (nf hp6_1)) (dt hp31_0) (dt hp31_1) (df hp31_2) (df hp31_3)).1
        · subst hA; exact (hV.n31 _ _ _ _ hI0 (dt (nf hp6_0)) (dt (nf hp6_1)) (dt hp31_0) (dt hp31_1) (df hp31_2) (df hp31_3)).2
        · clear hE hinl hV hK0; cbv; (try (repeat' (first | exact True.intro | rfl | assumption | apply And.intro)))
      · rename_i hp32_0 hp32_1
        subst hA; exact hV.g32 _ _ _ _ hI0 (dt (nf hp6_0)) (dt (nf hp6_1)) (dt hp32_0) (df hp32_1)
      · rename_i hp33_0 hp33_1
        subst hA; exact hV.g33 _ _ _ _ hI0 (dt (nf hp6_0)) (dt (nf hp6_1)) (dt hp33_0) (df hp33_1)
      · rename_i hp34_0 hp34_1
        subst hA; exact hV.g34 _ _ _ _ hI0 (dt (nf hp6_0)) (dt (nf hp6_1)) (dt hp34_0) (df hp34_1)
      · rename_i hp35_0 hp35_1
        refine hK0 (A.app x0_0 [[D.i (A.max (A.di (A.get a0 (A.toNat x0_3) 0)) x0_2)]], A.add (A.max 0 (A.sub x0_1 (A.mul a1_1 (A.sub (A.max (A.di (A.get a0 (A.toNat x0_3) 0)) x0_2) x0_2)))) 1024, A.max (A.di (A.get a0 (A.toNat x0_3) 0)) x0_2, A.add x0_3 1) _ ?_ ?_ ?_
        · subst hA; exact (hV.n35 _ _ _ _ hI0 (dt (nf hp6_0)) (dt (nf hp6_1)) (dt hp35_0) (df hp35_1)).1
        · subst hA; exact (hV.n35 _ _ _ _ hI0 (dt (nf hp6_0)) (dt (nf hp6_1)) (dt hp35_0) (df hp35_1)).2
        · clear hE hinl hV hK0; cbv; (try (repeat' (first | exact True.intro | rfl | assumption | apply And.intro)))
      · rename_i hp36_0
        subst hA; exact hV.g36 _ _ _ _ hI0 (dt (nf hp6_0)) (dt (nf hp6_1)) (df hp36_0)
      · rename_i hp37_0
        subst hA; exact hV.g37 _ _ _ _ hI0 (dt (nf hp6_0)) (dt (nf hp6_1)) (df hp37_0)
end HX

namespace HX
open Go Go.Proofs CX
set_option maxHeartbeats 4000000 in
set_option maxRecDepth 100000 in
theorem walk12 {ro A pre fn} (hE : EnvOk ⟨A, (cxE ro), ksF, sigL [], pre, fn⟩) {P : List (List D) → Prop} {res : List (List D) → Nat → Nat → D}
    (hv : ∀ (a0 : Rows) (a1 : Rows), ShR [.int .i64] a0 → ShR [.int .i64] a1 → P [[.l a0], [.l a1]] → ∃ (I0 : Bool → Int → Prop) (m0 : Bool → Int → Nat), V12 a0 a1 (res [[.l a0], [.l a1]]) I0 m0) :
    PureC (cxE ro) 12 ⟨[(false, [.sl [.int .i64]]), (false, [.sl [.int .i64]])], [(false, [.bool])], false⟩ P res := by
  have hA := hE.A
  simp only [] at hA
  have hinl : ∀ f fn, inlL [] f = some fn → (cxE ro).fn f = some fn ∧ (cxE ro).ext f = none := Inls.ok (by repeat (first | exact .nil | refine .cons rfl rfl ?_))
  refine PureC.of_vc hE hinl 6 (f := 12) (fn := Try.f12) ⟨rfl, rfl⟩ ?_
  intro a0 ha0 a1 ha1 hP
  obtain ⟨R, hR⟩ : ∃ R, res [[.l a0], [.l a1]] = R := ⟨_, rfl⟩
  rw [hR]
  obtain ⟨I0, m0, hV⟩ := hv a0 a1 ha0 ha1 hP
  rw [hR] at hV
  clear hR hP hv
  cbv
  repeat' (first | (refine Br.mk (fun _ => ?_) (fun _ => ?_) <;> cbv) | (refine NilB.mk (fun _ => ?_) ?_ <;> cbv) | refine And.intro ?_ ?_ | exact True.intro)
  · rename_i hp0_0
    subst hA; exact hV.g0 (df (nt hp0_0))
  · rename_i hp1_0
    refine Leaf.gen fun σz hσz => ?_
    refine loopB hE hinl 6 [] [] [] (fun x : Bool × Int => [.b x.1, .i x.2]) (fun x => I0 x.1 x.2) (fun x => m0 x.1 x.2) (false, 0) (by subst hA; exact hV.i0 (dt (nf hp1_0))) ?_ ?_ <;> subst hσz
    · clear hE hinl hV; cbv; (try (repeat' (first | exact True.intro | rfl | assumption | apply And.intro)))
    · intro ⟨x0_0, x0_1⟩ hI0 K0 hK0
      cbv
      repeat' (first | (refine Br.mk (fun _ => ?_) (fun _ => ?_) <;> cbv) | (refine NilB.mk (fun _ => ?_) ?_ <;> cbv) | refine And.intro ?_ ?_ | exact True.intro)
      · rename_i hp2_0
        subst hA; exact hV.g2 _ _ hI0 (dt (nf hp1_0)) (dt hp2_0)
      · rename_i hp3_0
        subst hA; exact hV.g3 _ _ hI0 (dt (nf hp1_0)) (dt hp3_0)
      · rename_i hp4_0
        subst hA; exact hV.g4 _ _ hI0 (dt (nf hp1_0)) (dt hp4_0)
      · rename_i hp5_0
        subst hA; exact hV.g2 _ _ hI0 (dt (nf hp1_0)) (dt hp5_0)
      · rename_i hp6_0
        subst hA; exact hV.g6 _ _ hI0 (dt (nf hp1_0)) (dt hp6_0)
      · rename_i hp7_0
        subst hA; exact hV.g7 _ _ hI0 (dt (nf hp1_0)) (dt hp7_0)
      · rename_i hp8_0 hp8_1
        subst hA; exact hV.g8 _ _ hI0 (dt (nf hp1_0)) (dt hp8_0) (df (nt hp8_1))
      · rename_i hp9_0 hp9_1
        subst hA; exact hV.g9 _ _ hI0 (dt (nf hp1_0)) (dt hp9_0) (dt (nf hp9_1))
      · rename_i hp10_0 hp10_1
        refine hK0 (x0_0, A.add x0_1 1) _ ?_ ?_ ?_
        · subst hA; exact (hV.n10 _ _ hI0 (dt (nf hp1_0)) (dt hp10_0) (dt (nf hp10_1))).1
        · subst hA; exact (hV.n10 _ _ hI0 (dt (nf hp1_0)) (dt hp10_0) (dt (nf hp10_1))).2
        · clear hE hinl hV hK0; cbv; (try (repeat' (first | exact True.intro | rfl | assumption | apply And.intro)))
      · rename_i hp11_0
        subst hA; exact hV.g11 _ _ hI0 (dt (nf hp1_0)) (df hp11_0)
end HX

namespace HX
open Go Go.Proofs CX
abbrev tru : List (List D) → Prop := fun _ => True
def r6 : List (List D) → Nat → Nat → D
  | [[.l l]], _, _ => .l (risP l l.length)
  | _, _, _ => .nil
def p6 : List (List D) → Prop
  | [[.l l]] => u8L l ∧ l.length ≤ 60
  | _ => False
noncomputable def r8 : List (List D) → Nat → Nat → D
  | [[.l l], [.i b, .i r]], _, _ => .b (kps l b r)
  | _, _, _ => .nil
def p8 : List (List D) → Prop
  | [[.l l], [.i b, .i r]] => okK l b r
  | _ => False
def r9 : List (List D) → Nat → Nat → D
  | [[.i a], [.i _]], _, 0 => .i a
  | [[.i _], [.i b]], _, _ => .i b
  | _, _, _ => .nil
def r14 : List (List D) → Nat → Nat → D
  | [[.i a, .i b]], _, _ => .i (crE a b)
  | _, _, _ => .nil
noncomputable def r21 : List (List D) → Nat → Nat → D
  | [[.l l]], _, _ => .i (allE l)
  | _, _, _ => .nil
open Classical in
noncomputable def r38 : List (List D) → Nat → Nat → D
  | [[.l l]], _, _ => .b (decide (srt l))
  | _, _, _ => .nil
noncomputable def r18 : List (List D) → Nat → Nat → D
  | [[.l l]], _, _ => .i (tmE l)
  | _, _, _ => .nil
noncomputable def r11 : List (List D) → Nat → Nat → D
  | [[.l l], [.i b, .i r]], 0, _ => .l (shL l b r)
  | [[.l l], [.i b, .i r]], _, _ => .i (shE l b r)
  | _, _, _ => .nil
def p12 : List (List D) → Prop
  | [[.l a], [.l b]] => b = a
  | _ => False
noncomputable def c6 : Ctr := ⟨6, ⟨[(false, [.sl [.int .u8]])], [(false, [.sl [.int .i64]])], false⟩, p6, r6⟩
noncomputable def c8 : Ctr := ⟨8, ⟨[(false, [.sl [.int .i64]]), (true, [.int .i64, .int .i64])], [(false, [.bool])], false⟩, p8, r8⟩
noncomputable def c9 : Ctr := ⟨9, ⟨[(false, [.int .i64]), (false, [.int .i64])], [(true, [.int .i64, .int .i64])], false⟩, tru, r9⟩
noncomputable def c21 : Ctr := ⟨21, ⟨[(false, [.sl [.int .i64, .int .i64]])], [(false, [.int .i64])], false⟩, tru, r21⟩
noncomputable def c20 : Ctr := ⟨20, ⟨[(true, [.int .i64, .int .i64])], [(false, [.int .i64])], false⟩, tru, r14⟩
noncomputable def c38 : Ctr := ⟨38, ⟨[(false, [.sl [.int .i64]])], [(false, [.bool])], false⟩, tru, r38⟩
noncomputable def c18 : Ctr := ⟨18, ⟨[(false, [.sl [.int .i64]])], [(false, [.int .i64])], false⟩, tru, r18⟩
noncomputable def c11 : Ctr := ⟨11, ⟨[(false, [.sl [.int .i64]]), (true, [.int .i64, .int .i64])], [(false, [.sl [.int .i64]]), (false, [.int .i64])], false⟩, tru, r11⟩
noncomputable def c12 : Ctr := ⟨12, ⟨[(false, [.sl [.int .i64]]), (false, [.sl [.int .i64]])], [(false, [.bool])], false⟩, p12, (fun _ _ _ => .b true)⟩
noncomputable def c5 : Ctr := ⟨5, ⟨[], [(false, [.bool])], false⟩, tru, (fun _ _ _ => .b true)⟩
section
variable (ro : Addr → Option V)
theorem k6 : PureC (cxE ro) c6.f c6.sg c6.pre c6.res := walk6 (envL (l := []) .nil) fun _ _ h => ⟨_, _, law6 h.1 h.2 rfl⟩
theorem k8 : PureC (cxE ro) c8.f c8.sg c8.pre c8.res := walk8 (envL (l := []) .nil) fun _ _ _ _ h => ⟨_, _, _, _, law8 h rfl⟩
theorem k9 : PureC (cxE ro) c9.f c9.sg c9.pre c9.res := walk9 (envL (l := []) .nil) fun _ _ _ => law9 rfl rfl
theorem k21 : PureC (cxE ro) c21.f c21.sg c21.pre c21.res := walk21 (envL (l := []) .nil) fun _ ha _ => ⟨_, _, law21 ha.2 rfl⟩
theorem k20 : PureC (cxE ro) c20.f c20.sg c20.pre c20.res := walk20 (envL (l := [c21]) (.cons (k21 ro) .nil)) fun _ _ _ => law20 (fun _ => trivial) (fun _ => rfl) rfl
theorem k38 : PureC (cxE ro) c38.f c38.sg c38.pre c38.res := walk38 (envL (l := []) .nil) fun _ ha _ => ⟨_, _, law38 ha.2 rfl⟩
theorem k18 : PureC (cxE ro) c18.f c18.sg c18.pre c18.res := walk18 (envL (l := [c38]) (.cons (k38 ro) .nil)) fun _ ha _ => ⟨_, _, law18 (fun _ => trivial) (fun _ => rfl) ha.2 rfl⟩
theorem k11 : PureC (cxE ro) c11.f c11.sg c11.pre c11.res := walk11 (envL (l := [c20, c18]) (.cons (k20 ro) (.cons (k18 ro) .nil))) fun _ _ _ _ _ => ⟨_, _, law11 (fun _ => trivial) (fun _ _ => rfl) (fun _ => trivial) (fun _ => rfl) rfl rfl⟩
theorem k12 : PureC (cxE ro) c12.f c12.sg c12.pre c12.res := walk12 (envL (l := []) .nil) fun _ _ ha _ h => ⟨_, _, law12' h ha.2 rfl⟩
theorem k5 : PureC (cxE ro) c5.f c5.sg c5.pre c5.res := works_pure
end
noncomputable def l4 : List Ctr := [c5, c6, c8, c9, c11, c12]
theorem k_l4 (ro : Addr → Option V) : Ctrs (cxE ro) l4 := (.cons (k5 ro) (.cons (k6 ro) (.cons (k8 ro) (.cons (k9 ro) (.cons (k11 ro) (.cons (k12 ro) .nil))))))
end HX

namespace HX
open Go Go.Proofs CX
theorem rng_u8 {row : List D} (h : RngL [.int .u8] row) : 0 ≤ wI row ∧ wI row ≤ 255 := by
  cases row with
  | nil => simp [wI, D.int]
  | cons d r => exact h.1
theorem law4' {a0 a3 : Rows} {a1 a2 : Int} (h : RngAll [(false, [.sl [.int .u8]]), (false, [.int .u16]), (false, [.int .u16]), (false, [.sl [.int .u8]])] [[.l a0], [.i a1], [.i a2], [.l a3]]) :
    ∃ I0 m0 I1 m1 I2 m2 I3 m3 I4 m4 I5 m5 I6 m6 I7 m7 I8 m8 I9 m9, V4 (preOf l4) (resOf l4) a0 a1 a2 a3 (fun _ _ => .b true) I0 m0 I1 m1 I2 m2 I3 m3 I4 m4 I5 m5 I6 m6 I7 m7 I8 m8 I9 m9 := by
  obtain ⟨⟨h0, _⟩, ⟨h1, _⟩, ⟨h2, _⟩, ⟨h3, _⟩, _⟩ := h
  exact law4 trivial rfl (fun _ h1 h2 => ⟨h1, h2⟩) (fun _ => rfl) (fun _ _ _ h => h) (fun _ _ _ => rfl) (fun _ => trivial) (fun _ _ => ⟨rfl, rfl⟩) (fun _ => trivial) (fun _ _ _ => ⟨rfl, rfl⟩) (fun _ => rfl) (fun _ _ => rfl) (fun r hr => rng_u8 (h0 r hr)) (fun r hr => rng_u8 (h3 r hr)) h1.1 h1.2 h2.1 h2.2 rfl
end HX

namespace Go.Proofs.Ytlijpmeeldoofaa.calcShapes
open Go.ChangeShapes Go.WideShapes Go.ChangeAt Go.RowKit HX

def ps : List (Bool × List Kd) := [(false, [.sl [.int .u8]]), (false, [.int .u16]), (false, [.int .u16]), (false, [.sl [.int .u8]])]
theorem law (ro : Addr → Option CX.V) : PureC0 (cxE ro) 4 ⟨ps, [(false, [.bool])], false⟩ (RngAll ps) trueRes := walk4 (envL (l := l4) (k_l4 ro)) fun _ _ _ _ _ _ h => law4' h

theorem lenN {α β : Type} {F : List α → β} {G : List α → β} (h : ∀ a b c d, F [a, b, c, d] = G [a, b, c, d]) : ∀ ds : List α, ds.length = 4 → F ds = G ds
  | [a, b, c, d], _ => h a b c d

set_option maxRecDepth 100000 in
set_option maxHeartbeats 400000 in
theorem lifted (os : Os) (started : os.Started) (H : Type) (enc : TypeId × Value → H) :
    ReturnsInHanded {} Try.checked os 4 .any (Rows.calcShapesSpec.pre6 enc Try.prog Try.f4 Rows.calcShapesRow.domain false) (Rows.calcShapesSpec.post enc Try.prog Try.f4 false true false false) := by
  refine returnsInHanded_of_change (C := Try.checked) own started (by kernel_rfl) Try.func4
    (ChangeSpec.witness6 (enc := enc) (C := Try.checked) false ⟨#[], #[.slice none 0 0, .int .u16 0, .int .u16 0, .slice none 0 0], []⟩ 8 (by kernel_rfl) (by kernel_rfl) (by kernel_rfl) (by kernel_rfl)) ?_
  intro W base args ds gs before hval hW _ _
  exact said (f := Try.f4) (s := Rows.calcShapesSpec) (n := 8) (tb := 4) cxE_ok law (by kernel_rfl) laid (by kernel_rfl) rfl Try.underlying4
    (lenN (F := Rows.calcShapesSpec.fn H) (G := fun ds => ⟨[.lit (.bool true)], ds, []⟩) fun _ _ _ _ => rfl) rfl W base args ds gs before hval hW

theorem holds : Rows.CalcShapesSaid :=
  OpenClaim.holds_of_wide 4 Try.f4 rfl rfl rfl rfl rfl rfl rfl ⟨rfl, rfl, rfl, rfl, rfl⟩ rfl rfl rfl rfl rfl (by kernel_rfl) Try.func4 (by kernel_rfl)
    (of_decide_eq_true (by kernel_rfl)) (by unfold Func.isWrapper; first | (rw [if_pos (by decide +kernel)]; kernel_rfl) | (rw [if_neg (by decide +kernel)]; exact ⟨rfl, rfl⟩))
    (fun os started H enc _ => lifted os started H enc)
end Go.Proofs.Ytlijpmeeldoofaa.calcShapes
