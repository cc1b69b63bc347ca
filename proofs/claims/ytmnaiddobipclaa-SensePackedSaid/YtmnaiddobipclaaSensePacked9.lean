/-
  Texts of the executors: PkU, PkT, PkV, PkX, PkY, PkZ, PkW, W92, W67, W72, W17, W50, W100, W76, W71, W51, HxJoin, W63, W27.
-/
import Derived.Test.YtmnaiddobipclaaSensePacked8
set_option linter.all false
namespace HX
open Go Go.Proofs CX
theorem folE_0 {l : Rows} {t i : Int} (h : folE l t i = 0) : (0 ≤ t ∧ t ≤ 1073741824) ∧ (0 ≤ i ∧ i ≤ 65535) ∧ (0 < l.length → eT l (l.length - 1) < t ∨ (eT l (l.length - 1) = t ∧ eI l (l.length - 1) < i)) := by
 unfold folE at h
 split at h
 ·omega
 ·rename_i h1
  have h1 : inB t 0 1073741824 = true ∧ inB i 0 65535 = true := Classical.not_not.1 h1
  have a := of_decide_eq_true h1.1
  have b := of_decide_eq_true h1.2
  split at h
  ·omega
  ·rename_i h2
   refine ⟨a, b, fun hl => ?_⟩
   have h3 : ¬ 0 ≤ cmpE (eT l (l.length - 1)) (eI l (l.length - 1)) t i := fun h => h2 ⟨hl, h⟩
   simp only [cmpE, cmpI] at h3
   split at h3 <;> (split at h3 <;> (try split at h3)) <;> (try omega)
   all_goals (repeat' (split at h3)) <;> omega
theorem folE_of {l : Rows} {t i : Int} (h1 : 0 ≤ t ∧ t ≤ 1073741824) (h2 : 0 ≤ i ∧ i ≤ 65535) (h3 : 0 < l.length → eT l (l.length - 1) < t ∨ (eT l (l.length - 1) = t ∧ eI l (l.length - 1) < i)) : folE l t i = 0 := by
 have a : inB t 0 1073741824 = true := decide_eq_true h1
 have b : inB i 0 65535 = true := decide_eq_true h2
 rw [folE, if_neg fun h => h ⟨a, b⟩, if_neg]
 intro ⟨hl, h⟩
 have h3 := h3 hl
 simp only [cmpE, cmpI] at h
 repeat' (split at h)
 all_goals omega
theorem ev_nil : EvOk' [] := ⟨fun i h => by simp at h, fun i h => by simp at h, fun i h => by simp at h⟩
theorem gt_eq (l : Rows) (i c : Nat) : gt l i c = ((l[i]?).getD []).getD c .nil := by
 show (l.getD i []).getD c .nil = _
 rw [List.getD_eq_getElem?_getD (l := l)]
theorem gtA {l : Rows} {x : List D} {i c : Nat} (h : i < l.length) : gt (l ++ [x]) i c = gt l i c := by
 rw [gt_eq, gt_eq, List.getElem?_append_left h]
theorem gtN {l : Rows} {x : List D} {c : Nat} : gt (l ++ [x]) l.length c = x.getD c .nil := by
 rw [gt_eq, List.getElem?_append_right (Nat.le_refl _), Nat.sub_self]
 rfl
theorem gt_take {l : Rows} {n i c : Nat} (h : i < n) : gt (l.take n) i c = gt l i c := by
 rw [gt_eq, gt_eq, List.getElem?_take, if_pos h]
theorem gt_drop (l : Rows) (n i c : Nat) : gt (l.drop n) i c = gt l (n + i) c := by
 rw [gt_eq, gt_eq, List.getElem?_drop]
theorem EvOk'.push {l : Rows} (h : EvOk' l) {t i : Int} (e : folE l t i = 0) : EvOk' (l ++ [[.i t, .i i]]) := by
 obtain ⟨e1, e2, e3⟩ := folE_0 e
 have oldT : ∀ j, j < l.length → eT (l ++ [[D.i t, D.i i]]) j = eT l j := fun j hj => by unfold eT; rw [gtA hj]
 have oldI : ∀ j, j < l.length → eI (l ++ [[D.i t, D.i i]]) j = eI l j := fun j hj => by unfold eI; rw [gtA hj]
 have newT : eT (l ++ [[D.i t, D.i i]]) l.length = t := by unfold eT; rw [gtN]; rfl
 have newI : eI (l ++ [[D.i t, D.i i]]) l.length = i := by unfold eI; rw [gtN]; rfl
 have len : (l ++ [[D.i t, D.i i]]).length = l.length + 1 := by simp
 refine ⟨fun j hj => ?_, fun j hj => ?_, fun j hj => ?_⟩ <;> rw [len] at hj
 ·by_cases e : j = l.length
  ·rw [e, newT]; exact e1
  ·rw [oldT j (by omega)]; exact h.rt j (by omega)
 ·by_cases e : j = l.length
  ·rw [e, newI]; exact e2
  ·rw [oldI j (by omega)]; exact h.ri j (by omega)
 ·by_cases e : j + 1 = l.length
  ·rw [e, newT, newI, oldT j (by omega), oldI j (by omega), show j = l.length - 1 by omega]
   exact e3 (by omega)
  ·rw [oldT j (by omega), oldI j (by omega), oldT (j + 1) (by omega), oldI (j + 1) (by omega)]
   exact h.up j (by omega)
def nxT (out : Rows) (g : Int) : Int := if 0 < out.length then g + eT out (out.length - 1) else g
def nxI (out : Rows) (g v : Int) : Int := if 0 < out.length ∧ g = 0 then v + (eI out (out.length - 1) + 1) else v
noncomputable def unpG (d : Rows) : Nat → Rows → Nat → Int × Int → Int × Int → Option Rows
 | 0, out, _, _, _ => some out
 | f + 1, out, p, mt, md =>
  match rdS d mt p with
  | none => none
  | some (g, p1) =>
   match rdS d md p1 with
   | none => none
   | some (v, p2) => if folE out (nxT out g) (nxI out g v) = 0 then unpG d f (out ++ [[.i (nxT out g), .i (nxI out g v)]]) p2 (lrn mt g) (lrn md v) else none
def dat (a : Rows) : Rows := v29i a
noncomputable def cntU (a : Rows) : Int := v29d a
noncomputable def sumOk (a : Rows) : Prop := (gt (v29a a) 0 0).int = sum0 (v29c a) ∧ (gt (v29a a) 1 0).int = sum1 (v29c a)
open Classical in
noncomputable def unpR (a : Rows) : Int × Rows :=
 if (a.length : Int) - 2 < 5 then (19, []) else if ¬ sumOk a then (18, []) else
 match unpG (dat a) (cntU a).toNat [] 0 (4, 1) (4, 1) with
 | none => (7, [])
 | some out => if 65536 < out.length then (7, []) else if eqL (packP out) a = true then (0, out) else (7, [])
theorem law29 {pre : Nat → List (List D) → Prop} {fn : Nat → List (List D) → Nat → Nat → D} (hp92 : ∀ x, pre 92 x) (hf92 : ∀ a n, fn 92 [[.i a, .i n]] 0 0 = .i (lowK (a, n)))
  (hp67 : ∀ l : Rows, byL l → l.length ≤ 4000000000 → pre 67 [[.l l]]) (hf67 : ∀ l, fn 67 [[.l l]] 0 0 = .i (sum0 l) ∧ fn 67 [[.l l]] 0 1 = .i (sum1 l))
  (hp71 : ∀ x, pre 71 x) (hf71 : ∀ l a b, fn 71 [[.l l], [.i a, .i b]] 0 0 = .i (folE l a b))
  (hp63 : ∀ l : Rows, l.length ≤ 65536 → EvOk' l → pre 63 [[.l l]]) (hf63 : ∀ l, fn 63 [[.l l]] 0 0 = .l (packP l))
  (hp72 : ∀ x, pre 72 x) (hf72 : ∀ a b, fn 72 [[.l a], [.l b]] 0 0 = .b (eqL a b))
  {a0 : Rows} (hb : byL a0) (hl : a0.length ≤ 3000000) {R : Nat → Nat → D} (h0 : R 0 0 = .l (unpR a0).2) (h1 : R 1 0 = .i (unpR a0).1) : V29 pre fn a0 R := by
 have hi : ∀ n : Int, (D.i n).int = n := fun _ => rfl
 have hbo : ∀ n : Bool, (D.b n).boo = n := fun _ => rfl
 have hrw : ∀ n : Rows, (D.l n).rows = n := fun _ => rfl
 have u19 : (a0.length : Int) - 2 < 5 → unpR a0 = (19, []) := fun h => by rw [unpR, if_pos h]
 have u18 : ¬ (a0.length : Int) - 2 < 5 → ¬ sumOk a0 → unpR a0 = (18, []) := fun h h2 => by rw [unpR, if_neg h, if_pos h2]
 have uG : ¬ (a0.length : Int) - 2 < 5 → sumOk a0 → unpR a0 = (match unpG (dat a0) (cntU a0).toNat [] 0 (4, 1) (4, 1) with
   | none => (7, [])
   | some out => if 65536 < out.length then (7, []) else if eqL (packP out) a0 = true then (0, out) else (7, [])) := fun h h2 => by rw [unpR, if_neg h, if_neg (fun h3 => h3 h2)]
 have lenA : ¬ (a0.length : Int) - 2 < 5 → (v29a a0).length = 2 := fun h => by simp only [v29a, List.length_take, List.length_drop]; omega
 have byC : byL (v29c a0) := by
  intro i hi
  simp only [v29c, List.drop_zero, List.length_take] at hi
  rw [show gt (v29c a0) i 0 = gt a0 i 0 by rw [v29c, List.drop_zero]; exact gt_take (by omega)]
  exact hb i (by omega)
 have e0 : (D.int (gt [[gt (v29a a0) 0 0, gt (v29a a0) 1 0]] 0 0)) = (gt (v29a a0) 0 0).int := rfl
 have e1 : (D.int (gt [[gt (v29a a0) 0 0, gt (v29a a0) 1 0]] 0 1)) = (gt (v29a a0) 1 0).int := rfl
 constructor
 case g0 => simp only [vZ29]; omega
 case g1 => intro h; rw [h0, u19 h]
 case g2 => intro h; rw [h1, u19 h]
 all_goals (intro hx)
 all_goals (try simp only [v29l] at hx)
 case g9 => exact hp67 _ byC (by simp only [v29c, List.drop_zero, List.length_take]; omega)
 case g10 | g11 =>
  intro h
  simp only [v29g, v29h, v29m, v29n, (hf67 _).1, (hf67 _).2, hi, e0, e1] at h
  have : ¬ sumOk a0 := fun h2 => by
   rcases h with h | h
   ·exact h h2.1
   ·exact h h2.2
  first | rw [h0, u18 hx this] | rw [h1, u18 hx this]
 case l0 =>
  intro hs
  simp only [v29g, v29h, v29m, v29n, (hf67 _).1, (hf67 _).2, hi, e0, e1] at hs
  have uG := uG hx hs
  obtain ⟨d, hd⟩ : ∃ d, v29i a0 = d := ⟨_, rfl⟩
  obtain ⟨cnt, hc⟩ : ∃ c, v29d a0 = c := ⟨_, rfl⟩
  rw [show dat a0 = d from hd, show cntU a0 = cnt from hc] at uG
  obtain ⟨G, hG⟩ : ∃ G, unpG d cnt.toNat [] 0 (4, 1) (4, 1) = G := ⟨_, rfl⟩
  rw [hG] at uG
  have bad : G = none → R 0 0 = .l [] ∧ R 1 0 = .i 7 := fun h => by
   rw [h] at uG
   rw [h0, h1, uG]
   exact ⟨rfl, rfl⟩
  have dl : d.length ≤ 3000000 := by rw [← hd]; simp only [v29i, List.length_take, List.length_drop]; omega
  have db : byL d := by
   intro i hi
   rw [← hd] at hi ⊢
   simp only [v29i, List.length_take, List.length_drop] at hi
   have e : gt (v29i a0) i 0 = gt a0 (5 + i) 0 := by
    rw [v29i, gt_take (by omega), gt_drop]
    rfl
   rw [e]
   exact hb (5 + i) (by omega)
  refine ⟨fun out i at_ ta tn da dn => ∃ P : Nat, at_ = P ∧ i = out.length ∧ P ≤ 8 * d.length ∧ 2 * out.length ≤ P ∧ MOk (ta, tn) ∧ MOk (da, dn) ∧ EvOk' out ∧ unpG d (cnt - i).toNat out P (ta, tn) (da, dn) = G, fun _ i _ _ _ _ _ => (cnt - i).toNat,
   ⟨0, rfl, rfl, by omega, by simp, mok_1, mok_1, ev_nil, by rw [show (cnt - 0).toNat = cnt.toNat by omega]; exact hG⟩, ?_⟩
  intro out i at_ ta tn da dn hI
  obtain ⟨P, h2, h3, hP, hPo, mt, md, ev, hU⟩ := hI
  subst h2 h3
  have ol : out.length ≤ 12000000 := by omega
  constructor
  all_goals (try simp only [hc, hf63, hf72, hbo, hrw])
  case l1 =>
   intro hlt
   obtain ⟨f, hf⟩ : ∃ f : Nat, (cnt - out.length).toNat = f + 1 := ⟨(cnt - out.length).toNat - 1, by omega⟩
   rw [hf, unpG] at hU
   refine ⟨_, law29r hp92 hf92 hd db (by omega) hP mt, fun g ok at1 a1 nn1 J => ⟨?_⟩⟩
   have j1 := J.lo; have j2 := J.hi; have j3 := J.v0; have j4 := J.v1
   obtain ⟨P1, hP1⟩ : ∃ P1 : Nat, at1 = P1 := ⟨at1.toNat, by omega⟩
   subst hP1
   refine ⟨_, law29r hp92 hf92 hd db (by omega) (p := P1) (by omega) md, fun v ok2 at2 a2 nn2 J2 => ?_⟩
   have k1 := J2.lo; have k2 := J2.hi; have k3 := J2.v0; have k4 := J2.v1
   obtain ⟨P2, hP2⟩ : ∃ P2 : Nat, at2 = P2 := ⟨at2.toNat, by omega⟩
   subst hP2
   have n1 : ok = false → G = none := fun h => by rw [← hU, J.no h]
   have n2 : ok = true → ok2 = false → G = none := fun h h2 => by
    rw [← hU, (J.y h).1]
    simp only [Int.toNat_natCast]
    rw [J2.no h2]
   have n3 : ok = true → ok2 = true → ¬ folE out (nxT out g) (nxI out g v) = 0 → G = none := fun h h2 h3 => by
    rw [← hU, (J.y h).1]
    simp only [Int.toNat_natCast]
    rw [(J2.y h2).1]
    simp only []
    rw [if_neg h3]
   have go : ok = true → ok2 = true → folE out (nxT out g) (nxI out g v) = 0 → ∃ P : Nat, ((P2 : Nat) : Int) = P ∧ ((out.length : Int) + 1) = ((out ++ [[D.i (nxT out g), D.i (nxI out g v)]]).length : Int) ∧ P ≤ 8 * d.length ∧ 2 * (out ++ [[D.i (nxT out g), D.i (nxI out g v)]]).length ≤ P ∧ MOk (a1, nn1) ∧ MOk (a2, nn2) ∧ EvOk' (out ++ [[D.i (nxT out g), D.i (nxI out g v)]]) ∧ unpG d (cnt - ((out.length : Int) + 1)).toNat (out ++ [[D.i (nxT out g), D.i (nxI out g v)]]) P (a1, nn1) (a2, nn2) = G := fun h h2 h3 => by
    have y1 := J.y h
    have y2 := J2.y h2
    have hU := hU
    rw [y1.1] at hU
    simp only [Int.toNat_natCast] at hU
    rw [y2.1] at hU
    simp only [Int.toNat_natCast] at hU
    rw [if_pos h3, ← y1.2.1, ← y2.2.1] at hU
    have y13 := y1.2.2; have y23 := y2.2.2
    refine ⟨P2, rfl, by simp, by omega, ?_, J.mo, J2.mo, ev.push h3, ?_⟩
    ·simp only [List.length_append, List.length_cons, List.length_nil]; omega
    ·rw [show (cnt - ((out.length : Int) + 1)).toNat = f by omega]; exact hU
   have ht : ((out.length : Int) - 1).toNat = out.length - 1 := by omega
   have lt_ : 0 < (out.length : Int) → 0 ≤ eT out (out.length - 1) ∧ eT out (out.length - 1) ≤ 1073741824 := fun h => ev.rt _ (by omega)
   have li_ : 0 < (out.length : Int) → 0 ≤ eI out (out.length - 1) ∧ eI out (out.length - 1) ≤ 65535 := fun h => ev.ri _ (by omega)
   have eTd : (D.int (gt out (out.length - 1) 0)) = eT out (out.length - 1) := rfl
   have eId : (D.int (gt out (out.length - 1) 1)) = eI out (out.length - 1) := rfl
   have f1 : 0 < (out.length : Int) → nxT out g = g + eT out (out.length - 1) := fun h => if_pos (by omega)
   have f2 : 0 < (out.length : Int) → g = 0 → nxI out g v = v + (eI out (out.length - 1) + 1) := fun h h2 => if_pos ⟨by omega, h2⟩
   have f3 : ¬ g = 0 → nxI out g v = v := fun h2 => if_neg fun h => h2 h.2
   have f4 : ¬ 0 < (out.length : Int) → nxT out g = g := fun h => if_neg (by omega)
   have f5 : ¬ 0 < (out.length : Int) → nxI out g v = v := fun h => if_neg fun h2 => h (by omega)
   constructor
   all_goals (try simp only [hf71, hi, vZ29, v29f, v29k, ht, eTd, eId])
   case g395 => intro _ _ h; exact (bad (n1 h)).1
   case g396 => intro _ _ h; exact (bad (n1 h)).2
   case g397 => intro _ _ h h2; exact (bad (n2 h h2)).1
   case g398 => intro _ _ h h2; exact (bad (n2 h h2)).2
   case g399 | g409 | g419 => intros; exact hp71 _
   case g400 => intro p1 p2 h h2 h3; rw [← f1 p1, ← f2 p1 p2] at h3; exact (bad (n3 h h2 h3)).1
   case g401 => intro p1 p2 h h2 h3; rw [← f1 p1, ← f2 p1 p2] at h3; exact (bad (n3 h h2 h3)).2
   case n404 => intro p1 p2 h h2 h3; rw [← f1 p1, ← f2 p1 p2] at h3 ⊢; exact ⟨go h h2 h3, by omega⟩
   case g405 => intro _ _ h; exact (bad (n1 h)).1
   case g406 => intro _ _ h; exact (bad (n1 h)).2
   case g407 => intro _ _ h h2; exact (bad (n2 h h2)).1
   case g408 => intro _ _ h h2; exact (bad (n2 h h2)).2
   case g410 => intro p1 p2 h h2 h3; rw [← f1 p1] at h3; rw [← f3 p2] at h3; exact (bad (n3 h h2 (by rw [f3 p2] at h3 ⊢; exact h3))).1
   case g411 => intro p1 p2 h h2 h3; rw [← f1 p1] at h3; exact (bad (n3 h h2 (by rw [f3 p2]; exact h3))).2
   case n414 => intro p1 p2 h h2 h3; rw [← f1 p1] at h3 ⊢; have := go h h2 (by rw [f3 p2]; exact h3); rw [f3 p2] at this; exact ⟨this, by omega⟩
   case g415 => intro _ h; exact (bad (n1 h)).1
   case g416 => intro _ h; exact (bad (n1 h)).2
   case g417 => intro _ h h2; exact (bad (n2 h h2)).1
   case g418 => intro _ h h2; exact (bad (n2 h h2)).2
   case g420 => intro p1 h h2 h3; exact (bad (n3 h h2 (by rw [f4 p1, f5 p1]; exact h3))).1
   case g421 => intro p1 h h2 h3; exact (bad (n3 h h2 (by rw [f4 p1, f5 p1]; exact h3))).2
   case n424 => intro p1 h h2 h3; have := go h h2 (by rw [f4 p1, f5 p1]; exact h3); rw [f4 p1, f5 p1] at this; exact ⟨this, by omega⟩
   all_goals (try simp only [List.length_cons, List.length_nil])
   all_goals intro p1
   all_goals (first | (have q1 := lt_ p1; have q2 := li_ p1; intros; omega) | (intros; omega))
  case g425 => intro hn h; have uG := uG; rw [← hU, show (cnt - out.length).toNat = 0 by omega] at uG; rw [h0, uG, unpG]; simp only []; rw [if_pos (by omega)]
  case g426 => intro hn h; have uG := uG; rw [← hU, show (cnt - out.length).toNat = 0 by omega] at uG; rw [h1, uG, unpG]; simp only []; rw [if_pos (by omega)]
  case g427 => intro _ h; exact hp63 _ (by omega) ev
  case g428 => intros; exact hp72 _
  all_goals intro hn h h2
  all_goals (have uG := uG; rw [← hU, show (cnt - out.length).toNat = 0 by omega, unpG] at uG; simp only [] at uG; rw [if_neg (by omega)] at uG)
  case g429 => rw [if_neg (by rw [h2]; decide)] at uG; rw [h0, uG]
  case g430 => rw [if_neg (by rw [h2]; decide)] at uG; rw [h1, uG]
  case g431 => rw [if_pos h2] at uG; rw [h0, uG]
  case g432 => rw [if_pos h2] at uG; rw [h1, uG]
 all_goals (try simp only [vZ29, List.length_cons, List.length_nil, show Int.toNat 2 = 2 from rfl, show Int.toNat 3 = 3 from rfl, show Int.toNat 4 = 4 from rfl])
 all_goals (try (have := lenA hx))
 all_goals (have b2 := hb 2 (by omega); have b3 := hb 3 (by omega); have b4 := hb 4 (by omega))
 all_goals (intros; omega)
end HX

namespace HX
open Go Go.Proofs CX
structure Wb (s : Rows × Int) : Prop where
 wf : Wf s
 by_ : byL s.1
 z : (gt s.1 (s.1.length - 1) 0).int % 2 ^ s.2.toNat = 0
theorem gt_set {o : Rows} {i j : Nat} {x : List D} (h : i < o.length) : gt (o.set i x) j 0 = if j = i then x.getD 0 .nil else gt o j 0 := by
 rw [gt_eq, gt_eq]
 by_cases e : j = i
 ·subst e
  rw [if_pos rfl, List.getElem?_set_self h]; rfl
 ·rw [if_neg e, List.getElem?_set_ne (fun h => e h.symm)]
theorem orL_eq {o : Rows} (hp : 0 < o.length) {b : Int} {s : Nat} (hs : s ≤ 7) (hb : byL o) (h3 : (gt o (o.length - 1) 0).int % 2 ^ (s + 1) = 0) (b0 : 0 ≤ b) (b1 : b ≤ 1) :
  orL o b s = o.set (o.length - 1) [.i ((gt o (o.length - 1) 0).int + b * 2 ^ s)] := by
 have h := hb (o.length - 1) (by omega)
 rw [orL, show ((o.length : Int) - 1).toNat = o.length - 1 by omega, or_u8 hs h.1 h.2 h3 b0 b1]
theorem pw : (2 : Int) ^ 0 = 1 ∧ (2 : Int) ^ 1 = 2 ∧ (2 : Int) ^ 2 = 4 ∧ (2 : Int) ^ 3 = 8 ∧ (2 : Int) ^ 4 = 16 ∧ (2 : Int) ^ 5 = 32 ∧ (2 : Int) ^ 6 = 64 ∧ (2 : Int) ^ 7 = 128 ∧ (2 : Int) ^ 8 = 256 := by decide
theorem put1_ok {s : Rows × Int} (h : Wb s) {v k : Int} (hv : 0 ≤ v) (hv2 : v ≤ 9223372036854775807) (hk : 0 ≤ k) (hk2 : k ≤ 64) :
  Wb (put1 s v k) ∧ (∀ p : Nat, (p : Int) < bitsN s → bAt (put1 s v k).1 p = bAt s.1 p) ∧ bAt (put1 s v k).1 (bitsN s).toNat = v / 2 ^ k.toNat % 2 ∧ (∀ i, i + 1 < s.1.length ∨ (i < s.1.length ∧ s.2 = 0) → gt (put1 s v k).1 i 0 = gt s.1 i 0) := by
 obtain ⟨⟨h1, h2, h3⟩, hb, hz⟩ := h
 obtain ⟨w1, w2⟩ := put1_wf ⟨h1, h2, h3⟩ v k
 obtain ⟨o, r⟩ := s
 simp only [] at h1 h2 h3 hb hz
 have eb := bitB_eq hv hv2 hk hk2
 obtain ⟨b, hbe⟩ : ∃ b, v / 2 ^ k.toNat % 2 = b := ⟨_, rfl⟩
 rw [hbe] at eb ⊢
 have b0 : 0 ≤ b ∧ b ≤ 1 := by omega
 by_cases hr : r = 0
 ·subst hr
  have hbo : byL (o ++ [[D.i 0]]) := by
   intro i hi
   by_cases e : i < o.length
   ·rw [gtA e]; exact hb i e
   ·rw [show i = o.length by simp at hi; omega, gtN]; decide
  have e1 : put1 (o, 0) v k = ((o ++ [[D.i 0]]).set o.length [D.i (b * 128)], 7) := by
   rw [put1_0 rfl, eb]
   have := orL_eq (o := o ++ [[D.i 0]]) (by simp) (b := b) (s := 7) (by omega) hbo (by simp only [List.length_append, List.length_cons, List.length_nil, Nat.add_sub_cancel]; rw [gtN]; decide) b0.1 b0.2
   simp only [List.length_append, List.length_cons, List.length_nil, Nat.add_sub_cancel, gtN] at this
   rw [show ((8 : Int) - 1) = ((7 : Nat) : Int) from rfl, this]
   simp [D.int, pw]
  rw [e1] at w1 w2 ⊢
  have g1 : ∀ j, gt ((o ++ [[D.i 0]]).set o.length [D.i (b * 128)]) j 0 = if j = o.length then .i (b * 128) else gt (o ++ [[D.i 0]]) j 0 := fun j => by rw [gt_set (by simp)]; rfl
  have len : ((o ++ [[D.i 0]]).set o.length [D.i (b * 128)]).length = o.length + 1 := by simp
  refine ⟨⟨w1, fun i hi => ?_, ?_⟩, fun p hp => ?_, ?_, fun i hi => ?_⟩
  ·simp only [] at hi ⊢
   rw [g1]
   split
   ·show 0 ≤ b * 128 ∧ b * 128 ≤ 255; omega
   ·exact hbo i (by rw [len] at hi; simpa using hi)
  ·simp only [len, Nat.add_sub_cancel]
   rw [g1, if_pos rfl]
   show b * 128 % 2 ^ 7 = 0
   rw [pw.2.2.2.2.2.2.2.1]; omega
  ·simp only [bitsN] at hp
   unfold bAt
   rw [g1, if_neg (by omega), gtA (by omega)]
  ·simp only [bitsN]
   unfold bAt
   rw [show (8 * (o.length : Int) - 0).toNat / 8 = o.length by omega, show (8 * (o.length : Int) - 0).toNat % 8 = 0 by omega, g1, if_pos rfl]
   show b * 128 / 2 ^ 7 % 2 = b
   rw [pw.2.2.2.2.2.2.2.1]; omega
  ·simp only [] at hi ⊢
   rw [g1, if_neg (by omega), gtA (by omega)]
 ·obtain ⟨s, rfl⟩ : ∃ s : Nat, r = ((s + 1 : Nat) : Int) := ⟨r.toNat - 1, by omega⟩
  have hs : s ≤ 6 := by omega
  rw [Int.toNat_natCast] at hz
  have hA := hb (o.length - 1) (by omega)
  obtain ⟨A, hAe⟩ : ∃ A, (gt o (o.length - 1) 0).int = A := ⟨_, rfl⟩
  have e1 : put1 (o, ((s + 1 : Nat) : Int)) v k = (o.set (o.length - 1) [D.i (A + b * 2 ^ s)], (s : Int)) := by
   rw [put1_1 (by omega), eb, show (((s + 1 : Nat) : Int) - 1) = (s : Int) by omega]
   rw [orL_eq h1 (by omega) hb hz b0.1 b0.2, hAe]
  rw [hAe] at hA hz
  rw [e1] at w1 w2 ⊢
  have g1 : ∀ j, gt (o.set (o.length - 1) [D.i (A + b * 2 ^ s)]) j 0 = if j = o.length - 1 then .i (A + b * 2 ^ s) else gt o j 0 := fun j => by rw [gt_set (by omega)]; rfl
  have len : (o.set (o.length - 1) [D.i (A + b * 2 ^ s)]).length = o.length := by simp
  have cs : s = 0 ∨ s = 1 ∨ s = 2 ∨ s = 3 ∨ s = 4 ∨ s = 5 ∨ s = 6 := by omega
  refine ⟨⟨w1, fun i hi => ?_, ?_⟩, fun p hp => ?_, ?_, fun i hi => ?_⟩
  ·simp only [] at hi ⊢
   rw [g1]
   split
   ·show 0 ≤ A + b * 2 ^ s ∧ A + b * 2 ^ s ≤ 255
    rcases cs with rfl | rfl | rfl | rfl | rfl | rfl | rfl <;> simp only [pw, Nat.reduceAdd] at hz ⊢ <;> omega
   ·exact hb i (by rw [len] at hi; exact hi)
  ·simp only [len, Int.toNat_natCast]
   rw [g1, if_pos rfl]
   show (A + b * 2 ^ s) % 2 ^ s = 0
   rcases cs with rfl | rfl | rfl | rfl | rfl | rfl | rfl <;> simp only [pw, Nat.reduceAdd] at hz ⊢ <;> omega
  ·simp only [bitsN] at hp
   unfold bAt
   rw [g1]
   split
   ·rename_i e
    rw [e, hAe]
    show (A + b * 2 ^ s) / 2 ^ (7 - p % 8) % 2 = _
    have hq : p % 8 + s + 1 < 8 := by omega
    generalize p % 8 = q at hq
    have cq : q = 0 ∨ q = 1 ∨ q = 2 ∨ q = 3 ∨ q = 4 ∨ q = 5 ∨ q = 6 := by omega
    rcases cs with rfl | rfl | rfl | rfl | rfl | rfl | rfl <;> rcases cq with rfl | rfl | rfl | rfl | rfl | rfl | rfl <;> first | (exfalso; omega; done) | (simp only [pw, Nat.reduceAdd, Nat.reduceSub] at hz ⊢; omega)
   ·rfl
  ·simp only [bitsN]
   unfold bAt
   rw [show (8 * (o.length : Int) - ((s + 1 : Nat) : Int)).toNat / 8 = o.length - 1 by omega, show 7 - (8 * (o.length : Int) - ((s + 1 : Nat) : Int)).toNat % 8 = s by omega, g1, if_pos rfl]
   show (A + b * 2 ^ s) / 2 ^ s % 2 = b
   rcases cs with rfl | rfl | rfl | rfl | rfl | rfl | rfl <;> simp only [pw, Nat.reduceAdd] at hz ⊢ <;> omega
  ·simp only [] at hi ⊢
   rw [g1, if_neg (by omega)]
end HX

namespace HX
open Go Go.Proofs CX
theorem put_hd {s : Rows × Int} (h : Wf s) (hb : 40 ≤ bitsN s) {i : Nat} (hi : i < 5) : i + 1 < s.1.length ∨ (i < s.1.length ∧ s.2 = 0) := by
 have := h.r0; have := h.r7
 simp only [bitsN] at hb
 omega
structure Sb (s s' : Rows × Int) : Prop where
 le : bitsN s ≤ bitsN s'
 bit : ∀ p : Nat, (p : Int) < bitsN s → bAt s'.1 p = bAt s.1 p
 hd : 40 ≤ bitsN s → ∀ i, i < 5 → gt s'.1 i 0 = gt s.1 i 0
theorem Sb.refl (s : Rows × Int) : Sb s s := ⟨Int.le_refl _, fun _ _ => rfl, fun _ _ _ => rfl⟩
theorem Sb.trans {a b c : Rows × Int} (h : Sb a b) (g : Sb b c) : Sb a c :=
 ⟨Int.le_trans h.le g.le, fun p hp => by rw [g.bit p (Int.lt_of_lt_of_le hp h.le), h.bit p hp], fun hb i hi => by rw [g.hd (Int.le_trans hb h.le) i hi, h.hd hb i hi]⟩
theorem putN_ok {v : Int} (hv : 0 ≤ v) (hv2 : v ≤ 9223372036854775807) : ∀ n, n ≤ 64 → ∀ {s : Rows × Int}, Wb s →
  Wb (putN v n s) ∧ Sb s (putN v n s) ∧ ∀ t, t < n → bAt (putN v n s).1 ((bitsN s).toNat + t) = v / 2 ^ (n - 1 - t) % 2
 | 0, _, s, h => ⟨h, Sb.refl s, fun t ht => by omega⟩
 | n + 1, hn, s, h => by
  obtain ⟨a1, a2, a3, a4⟩ := put1_ok h (k := (n : Int)) hv hv2 (by omega) (by omega)
  have a5 := (put1_wf h.wf v n).2
  obtain ⟨b1, b2, b3⟩ := putN_ok hv hv2 n (by omega) a1
  have pos : 0 ≤ bitsN s := by have := h.wf.pos; have := h.wf.r7; simp only [bitsN]; omega
  refine ⟨b1, Sb.trans ⟨by omega, a2, fun hb i hi => a4 i (put_hd h.wf hb hi)⟩ b2, fun t ht => ?_⟩
  cases t with
  | zero =>
   show bAt (putN v n (put1 s v n)).1 _ = _
   rw [Nat.add_zero, b2.bit _ (by omega), a3]
   rfl
  | succ t =>
   have := b3 t (by omega)
   rw [a5] at this
   rw [show (bitsN s).toNat + (t + 1) = (bitsN s + 1).toNat + t by omega, show n + 1 - 1 - (t + 1) = n - 1 - t by omega]
   exact this
theorem mod_two (v : Int) (n : Nat) : v % 2 ^ (n + 1) = v / 2 ^ n % 2 * 2 ^ n + v % 2 ^ n := by
 have hp : (0 : Int) < 2 ^ n := Int.pow_pos (by omega)
 obtain ⟨P, hP⟩ : ∃ P : Int, (2 : Int) ^ n = P := ⟨_, rfl⟩
 rw [Int.pow_succ, hP]
 rw [hP] at hp
 have h1 := Int.mul_ediv_add_emod v P
 have m0 := Int.emod_nonneg v (b := P) (by omega)
 have m1 := Int.emod_lt_of_pos v hp
 obtain ⟨Q, hQ⟩ : ∃ Q, v / P = Q := ⟨_, rfl⟩
 obtain ⟨M, hM⟩ : ∃ M, v % P = M := ⟨_, rfl⟩
 rw [hQ, hM] at h1
 rw [hM] at m0 m1
 rw [hQ, hM]
 have hq : Q = 2 * (Q / 2) + Q % 2 := by omega
 have e : v = (Q % 2 * P + M) + P * 2 * (Q / 2) := by
  have : P * Q = P * 2 * (Q / 2) + Q % 2 * P := by
   rw [Int.mul_assoc, Int.mul_comm (Q % 2) P, ← Int.mul_add, ← hq]
  omega
 rw [e, Int.add_mul_emod_self_left]
 have hr : Q % 2 = 0 ∨ Q % 2 = 1 := by omega
 refine Int.emod_eq_of_lt ?_ ?_
 ·rcases hr with h | h <;> rw [h] <;> omega
 ·rcases hr with h | h <;> rw [h] <;> omega
theorem tk_ok {d : Rows} {v : Int} : ∀ (n : Nat) (x : Int) (p : Nat), (∀ t, t < n → bAt d (p + t) = v / 2 ^ (n - 1 - t) % 2) → tkN d n x p = x * 2 ^ n + v % 2 ^ n
 | 0, x, p, _ => by simp [tkN, Int.emod_one]
 | n + 1, x, p, h => by
  have h0 := h 0 (by omega)
  rw [Nat.add_zero, show n + 1 - 1 - 0 = n by omega] at h0
  rw [tkN, tk_ok n _ (p + 1) fun t ht => by
   have := h (t + 1) (by omega)
   rw [show p + 1 + t = p + (t + 1) by omega, this]
   congr 2
   congr 1
   omega]
  rw [h0, mod_two, Int.pow_succ]
  generalize v / 2 ^ n % 2 = b
  generalize v % 2 ^ n = m
  generalize (2 : Int) ^ n = P
  rw [Int.add_mul, Int.mul_comm 2 x, Int.mul_assoc x 2 P, Int.mul_comm 2 P]
  omega
theorem rdU_ones {d : Rows} : ∀ (n f p : Nat), n ≤ f → p + n ≤ 8 * d.length → (∀ t, t < n → bAt d (p + t) = 1) → rdU d f p = rdU d (f - n) (p + n)
 | 0, f, p, _, _, _ => rfl
 | n + 1, f, p, hf, hp, h => by
  obtain ⟨g, rfl⟩ : ∃ g, f = g + 1 := ⟨f - 1, by omega⟩
  have h0 := h 0 (by omega)
  rw [Nat.add_zero] at h0
  rw [rdU, if_neg (by omega), if_neg (by omega), rdU_ones n g (p + 1) (by omega) (by omega) fun t ht => by
   have := h (t + 1) (by omega)
   rw [show p + 1 + t = p + (t + 1) by omega]; exact this]
  rw [show g + 1 - (n + 1) = g - n by omega, show p + (n + 1) = p + 1 + n by omega]
structure Rd (d : Rows) (s : Rows × Int) : Prop where
 len : bitsN s ≤ 40 + 8 * d.length
 bit : ∀ p : Nat, 40 ≤ p → (p : Int) < bitsN s → bAt d (p - 40) = bAt s.1 p
theorem Rd.less {d : Rows} {s s' : Rows × Int} (h : Rd d s') (g : Sb s s') : Rd d s :=
 ⟨Int.le_trans g.le h.len, fun p h1 h2 => by rw [h.bit p h1 (Int.lt_of_lt_of_le h2 g.le), g.bit p h2]⟩
theorem ones24 : ∀ t, t < 24 → (16777215 : Int) / 2 ^ (24 - 1 - t) % 2 = 1 := by decide
theorem onesq : ∀ q, q < 24 → ∀ t, t < q → ((2 : Int) ^ (q + 1) - 2) / 2 ^ (q + 1 - 1 - t) % 2 = 1 := by decide
theorem zeroq : ∀ q, q < 24 → ((2 : Int) ^ (q + 1) - 2) / 2 ^ (q + 1 - 1 - q) % 2 = 0 := by decide
theorem wr_ok {m : Int × Int} {v : Int} (hv : 0 ≤ v) (hv2 : v ≤ 2147483647) {s : Rows × Int} (h : Wb s) (hb : 40 ≤ bitsN s) :
  Wb (wrS m v s) ∧ Sb s (wrS m v s) ∧ ∀ d, Rd d (wrS m v s) → rdS d m (bitsN s - 40).toNat = some (v, (bitsN (wrS m v s) - 40).toNat) := by
 have hk := lowK_le m
 obtain ⟨K, hK⟩ : ∃ K, lowK m = K := ⟨_, rfl⟩
 have hq := shr_bd (v := v) (k := (lowK m : Int)) hv (by omega) (by omega)
 have hqe := shr_eq (v := v) (k := (lowK m : Int)) (by omega) (by omega)
 rw [hK] at hk hq hqe
 rw [Int.toNat_natCast] at hqe
 unfold wrS
 rw [hK]
 obtain ⟨q, hqq⟩ : ∃ q, Ar.std.shr .i64 v (K : Int) = q := ⟨_, rfl⟩
 rw [hqq] at hq hqe ⊢
 split
 ·rename_i h24
  obtain ⟨Q, rfl⟩ : ∃ Q : Nat, q = Q := ⟨q.toNat, by omega⟩
  have hw : Ar.std.shl .i64 1 ((Q : Int) + 1) - 2 = 2 ^ (Q + 1) - 2 := by
   rw [shl_one (by omega) (by omega), show ((Q : Int) + 1).toNat = Q + 1 by omega]
  rw [hw, show ((Q : Int) + 1).toNat = Q + 1 by omega]
  have pl := pow_le (Q + 1) (by omega)
  have p2 : (2 : Int) ≤ 2 ^ (Q + 1) := by rw [Int.pow_succ]; have := (pow_le Q (by omega)).1; omega
  obtain ⟨a1, a2, a3⟩ := putN_ok (v := 2 ^ (Q + 1) - 2) (by omega) (by omega) (Q + 1) (by omega) h
  obtain ⟨b1, b2, b3⟩ := putN_ok hv (by omega) K (by omega) a1
  have c1 := (putN_wf (2 ^ (Q + 1) - 2) (Q + 1) h.wf).2
  have c2 := (putN_wf v K a1.wf).2
  refine ⟨b1, a2.trans b2, fun d hd => ?_⟩
  have hd1 := hd.less b2
  have len := hd.len
  have at1 : ∀ t, t < Q + 1 → bAt d ((bitsN s - 40).toNat + t) = (2 ^ (Q + 1) - 2) / 2 ^ (Q + 1 - 1 - t) % 2 := fun t ht => by
   rw [← a3 t ht, ← hd1.bit ((bitsN s).toNat + t) (by omega) (by omega)]
   congr 1; omega
  have at2 : ∀ t, t < K → bAt d ((bitsN s - 40).toNat + (Q + 1) + t) = v / 2 ^ (K - 1 - t) % 2 := fun t ht => by
   rw [← b3 t ht, ← hd.bit ((bitsN (putN (2 ^ (Q + 1) - 2) (Q + 1) s)).toNat + t) (by omega) (by omega)]
   congr 1; omega
  have u : rdU d 24 (bitsN s - 40).toNat = some (Q, (bitsN s - 40).toNat + (Q + 1)) := by
   rw [rdU_ones Q 24 _ (by omega) (by omega) fun t ht => by rw [at1 t (by omega)]; exact onesq Q (by omega) t ht]
   rw [show 24 - Q = (23 - Q) + 1 by omega, rdU, if_neg (by omega), if_pos (by rw [at1 Q (by omega)]; exact zeroq Q (by omega)), show 23 - (23 - Q) = Q by omega]
   rfl
  rw [rdS, u]
  simp only [hK]
  rw [if_neg (by omega), if_neg (by omega), tk_ok K 0 _ at2, Int.zero_mul, Int.zero_add]
  congr 2
  ·rw [hqe, Int.mul_comm]
   exact Int.mul_ediv_add_emod v _
  ·omega
 ·rename_i h24
  obtain ⟨N, hN⟩ : ∃ N : Nat, N = 24 := ⟨_, rfl⟩
  obtain ⟨M, hM⟩ : ∃ M : Nat, M = 31 := ⟨_, rfl⟩
  obtain ⟨W, hW⟩ : ∃ W : Int, W = 16777215 := ⟨_, rfl⟩
  rw [← hN, ← hM, ← hW]
  obtain ⟨a1, a2, a3⟩ := putN_ok (v := W) (by omega) (by omega) N (by omega) h
  obtain ⟨b1, b2, b3⟩ := putN_ok hv (by omega) M (by omega) a1
  have c1 := (putN_wf W N h.wf).2
  have c2 := (putN_wf v M a1.wf).2
  refine ⟨b1, a2.trans b2, fun d hd => ?_⟩
  have hd1 := hd.less b2
  have len := hd.len
  have at1 : ∀ t, t < N → bAt d ((bitsN s - 40).toNat + t) = 1 := fun t ht => by
   have e := a3 t ht
   rw [hW, hN, ones24 t (by omega)] at e
   rw [hN] at *
   have e2 := hd1.bit ((bitsN s).toNat + t) (by omega) (by omega)
   rw [show (bitsN s - 40).toNat + t = (bitsN s).toNat + t - 40 by omega, e2]
   rw [hW]
   exact e
  have at2 : ∀ t, t < M → bAt d ((bitsN s - 40).toNat + N + t) = v / 2 ^ (M - 1 - t) % 2 := fun t ht => by
   have e2 := hd.bit ((bitsN (putN W N s)).toNat + t) (by omega) (by omega)
   rw [show (bitsN s - 40).toNat + N + t = (bitsN (putN W N s)).toNat + t - 40 by omega, e2]
   exact b3 t ht
  have u : rdU d 24 (bitsN s - 40).toNat = some (24, (bitsN s - 40).toNat + N) := by
   rw [← hN, rdU_ones N N _ (by omega) (by omega) at1, Nat.sub_self, rdU, hN]
  have fin : tkN d 31 0 ((bitsN s - 40).toNat + N) = v := by
   rw [← hM, tk_ok M 0 _ at2, Int.zero_mul, Int.zero_add, hM]
   exact Int.emod_eq_of_lt hv (by omega)
  rw [rdS, u]
  simp only [hK]
  rw [if_pos trivial, if_neg (by omega), fin]
  congr 2
  omega
end HX

namespace HX
open Go Go.Proofs CX
noncomputable def stP (l : Rows) (q : Nat) : Rows × Int := ((pkS l q).o, (pkS l q).r)
theorem hdr_by (l : Rows) : byL (hdrP l) := by
 intro i hi
 have h1 := wrapU8_rng (Ar.std.shr .i64 (l.length : Int) 16)
 have h2 := wrapU8_rng (Ar.std.shr .i64 (l.length : Int) 8)
 have h3 := wrapU8_rng (l.length : Int)
 simp only [hdrP, List.length_cons, List.length_nil] at hi
 have : i = 0 ∨ i = 1 ∨ i = 2 ∨ i = 3 ∨ i = 4 := by omega
 rcases this with rfl | rfl | rfl | rfl | rfl
 ·show (0 : Int) ≤ 71 ∧ (71 : Int) ≤ 255; omega
 ·show (0 : Int) ≤ 83 ∧ (83 : Int) ≤ 255; omega
 ·exact h1
 ·exact h2
 ·exact h3
theorem pk_step {l : Rows} (h : EvOk' l) : ∀ q, q ≤ l.length → Wb (stP l q) ∧ 40 ≤ bitsN (stP l q) ∧ Sb (stP l 0) (stP l q)
 | 0, _ => ⟨⟨⟨by simp [stP, pkS, hdrP], by simp [stP, pkS], by simp [stP, pkS]⟩, hdr_by l, by show _ % (2 : Int) ^ 0 = 0; rw [pw.1, Int.emod_one]⟩, by simp [stP, pkS, hdrP, bitsN], Sb.refl _⟩
 | q + 1, hq => by
  obtain ⟨a1, a2, a3⟩ := pk_step h q (by omega)
  obtain ⟨g1, g2⟩ := gap_bd h (q := q) (by omega)
  obtain ⟨b1, b2, _⟩ := wr_ok (m := (pkS l q).t) g1.1 (by omega) a1 a2
  obtain ⟨c1, c2, _⟩ := wr_ok (m := (pkS l q).d) g2.1 (by omega) b1 (Int.le_trans a2 b2.le)
  exact ⟨c1, Int.le_trans a2 (b2.trans c2).le, a3.trans (b2.trans c2)⟩
theorem pk_sb {l : Rows} (h : EvOk' l) {q : Nat} (hq : q < l.length) :
  Sb (stP l q) (wrS (pkS l q).t (gapE l q (pkS l q).bt) (stP l q)) ∧ Sb (wrS (pkS l q).t (gapE l q (pkS l q).bt) (stP l q)) (stP l (q + 1)) ∧
  ∀ d, Rd d (stP l (q + 1)) → ∃ P1, rdS d (pkS l q).t (bitsN (stP l q) - 40).toNat = some (gapE l q (pkS l q).bt, P1) ∧ rdS d (pkS l q).d P1 = some (plcE l q (pkS l q).bt (pkS l q).bi, (bitsN (stP l (q + 1)) - 40).toNat) := by
 obtain ⟨a1, a2, a3⟩ := pk_step h q (by omega)
 obtain ⟨g1, g2⟩ := gap_bd h (q := q) (by omega)
 obtain ⟨b1, b2, b3⟩ := wr_ok (m := (pkS l q).t) g1.1 (by omega) a1 a2
 obtain ⟨c1, c2, c3⟩ := wr_ok (m := (pkS l q).d) g2.1 (by omega) b1 (Int.le_trans a2 b2.le)
 exact ⟨b2, c2, fun d hd => ⟨_, b3 d (Rd.less hd c2), c3 d hd⟩⟩
theorem pk_to {l : Rows} (h : EvOk' l) : ∀ f q, q + f = l.length → Sb (stP l q) (stP l l.length)
 | 0, q, e => by rw [show q = l.length by omega]; exact Sb.refl _
 | f + 1, q, e => by
  obtain ⟨b1, b2, _⟩ := pk_sb h (q := q) (by omega)
  exact (b1.trans b2).trans (pk_to h f (q + 1) (by omega))
def Can (l : Rows) : Prop := ∀ i, (h : i < l.length) → l[i] = [.i (eT l i), .i (eI l i)]
theorem unp_ok {l : Rows} (h : EvOk' l) (hc : Can l) {d : Rows} (hd : Rd d (stP l l.length)) : ∀ f q, q + f = l.length → unpG d f (l.take q) (bitsN (stP l q) - 40).toNat (pkS l q).t (pkS l q).d = some l
 | 0, q, e => by rw [unpG, List.take_of_length_le (by omega)]
 | f + 1, q, e => by
  obtain ⟨b1, b2, b3⟩ := pk_sb h (q := q) (by omega)
  obtain ⟨P1, r1, r2⟩ := b3 d (hd.less (pk_to h f (q + 1) (by omega)))
  have lq : (l.take q).length = q := by rw [List.length_take]; omega
  obtain ⟨e1, e2⟩ := pk_before l q
  have tT : 0 < q → eT (l.take q) (q - 1) = eT l (q - 1) := fun hq => by unfold eT; rw [gt_take (by omega)]
  have tI : 0 < q → eI (l.take q) (q - 1) = eI l (q - 1) := fun hq => by unfold eI; rw [gt_take (by omega)]
  have rq := h.rt q (by omega)
  have n1 : nxT (l.take q) (gapE l q (pkS l q).bt) = eT l q := by
   rw [nxT, lq, gapE, e1]
   by_cases hq : 0 < q
   ·rw [if_pos hq, if_pos hq, tT hq, if_neg (by omega)]; omega
   ·rw [if_neg hq, if_neg hq]
  have n2 : nxI (l.take q) (gapE l q (pkS l q).bt) (plcE l q (pkS l q).bt (pkS l q).bi) = eI l q := by
   by_cases hq : 0 < q
   ·have eb : (pkS l q).bt = eT l (q - 1) := by rw [e1, if_neg (by omega)]
    have ei : (pkS l q).bi = eI l (q - 1) := by rw [e2, if_neg (by omega)]
    rw [eb, ei, nxI, lq, tI hq, gapE, if_pos hq, plcE]
    by_cases he : eT l q = eT l (q - 1)
    ·rw [if_pos he, if_pos ⟨hq, by omega⟩]; omega
    ·rw [if_neg he, if_neg fun h => he (by omega)]
   ·have eb : (pkS l q).bt = -1 := by rw [e1, if_pos (by omega)]
    rw [eb, nxI, lq, if_neg fun h => hq h.1, plcE, if_neg (by omega)]
  have fo : folE (l.take q) (eT l q) (eI l q) = 0 := by
   refine folE_of rq (h.ri q (by omega)) fun hq => ?_
   rw [lq] at hq ⊢
   rw [tT hq, tI hq]
   have := h.up (q - 1) (by omega)
   rw [show q - 1 + 1 = q by omega] at this
   exact this
  rw [unpG, r1]
  simp only []
  rw [r2]
  simp only []
  rw [n1, n2, if_pos fo]
  have tk : l.take q ++ [[.i (eT l q), .i (eI l q)]] = l.take (q + 1) := by
   rw [List.take_succ_eq_append_getElem (by omega), hc q (by omega)]
  rw [tk]
  exact unp_ok h hc hd f (q + 1) (by omega)
theorem or_0 {x : Int} (h0 : 0 ≤ x) (h1 : x ≤ 1099511627776) : Ar.std.bit .or .i64 0 x = x := by
 show IntKind.wrap .i64 ((BitVec.ofInt 64 0 ||| BitVec.ofInt 64 x).toNat : Int) = _
 rw [BitVec.toNat_or, toNat_ofInt (by omega) (by decide), toNat_ofInt h0 (by omega), show (0 : Int).toNat = 0 from rfl, Nat.zero_or, wrap64 (by omega) (by omega)]
 omega
theorem eqL_refl (a : Rows) : eqL a a = true := decide_eq_true ⟨rfl, fun _ _ => rfl⟩
theorem pack_len {l : Rows} (h : EvOk' l) : 7 ≤ (packP l).length ∧ (packP l).length ≤ 14 * l.length + 8 ∧ (packP l).length = (stP l l.length).1.length + 2 ∧ 5 ≤ (stP l l.length).1.length := by
 obtain ⟨a, b, c, _, _⟩ := pk_ok h l.length (Nat.le_refl _)
 have := a.r0; have := a.r7
 have e : (packP l).length = (stP l l.length).1.length + 2 := by simp [packP, stP]
 simp only [bitsN] at b c this
 rw [e]
 show 7 ≤ (pkS l l.length).o.length + 2 ∧ _ ∧ _ ∧ 5 ≤ (pkS l l.length).o.length
 refine ⟨by omega, ?_, rfl, by omega⟩
 show (pkS l l.length).o.length + 2 ≤ _
 omega
theorem gt_dat {a : Rows} {j : Nat} (h : j + 7 < a.length) : gt (v29i a) j 0 = gt a (5 + j) 0 := by
 rw [v29i, gt_take (by omega), gt_drop]
 rfl
theorem len_dat (a : Rows) : (v29i a).length = a.length - 7 := by
 simp only [v29i, List.length_take, List.length_drop, show Int.toNat 5 = 5 from rfl]; omega
theorem pack_gt {l : Rows} {j : Nat} (h : j < (stP l l.length).1.length) : gt (packP l) j 0 = gt (stP l l.length).1 j 0 := by
 show gt ((stP l l.length).1 ++ [[.i (sum0 (pkS l l.length).o)], [.i (sum1 (pkS l l.length).o)]]) j 0 = _
 rw [gt_eq, gt_eq, List.getElem?_append_left h]
theorem pack_rd {l : Rows} (h : EvOk' l) : Rd (v29i (packP l)) (stP l l.length) := by
 obtain ⟨l1, l2, l3, l4⟩ := pack_len h
 obtain ⟨a, _, _⟩ := pk_step h l.length (Nat.le_refl _)
 have r0 := a.wf.r0
 refine ⟨?_, fun p h1 h2 => ?_⟩
 ·rw [len_dat, l3]; simp only [bitsN]; omega
 ·simp only [bitsN] at h2
  unfold bAt
  rw [gt_dat (by omega), pack_gt (by omega), show 5 + (p - 40) / 8 = p / 8 by omega, show (p - 40) % 8 = p % 8 by omega]
theorem pack_cnt {l : Rows} (h : EvOk' l) (hl : l.length ≤ 255) : v29d (packP l) = l.length := by
  obtain ⟨l1, l2, l3, l4⟩ := pack_len h
  obtain ⟨a, b, c⟩ := pk_step h l.length (Nat.le_refl _)
  have hd := c.hd (by simp [stP, pkS, hdrP, bitsN])
  have g : ∀ i, i < 5 → gt (packP l) i 0 = gt (hdrP l) i 0 := fun i hi => by rw [pack_gt (by omega), hd i hi]; rfl
  have s16 : Ar.std.shr .i64 (l.length : Int) 16 = 0 := by
    rw [shr_eq (by omega) (by omega)]
    exact Int.ediv_eq_zero_of_lt (by omega) (by have : (2 : Int) ^ (16 : Int).toNat = 65536 := by decide
                                                omega)
  have s8 : Ar.std.shr .i64 (l.length : Int) 8 = 0 := by
    rw [shr_eq (by omega) (by omega)]
    exact Int.ediv_eq_zero_of_lt (by omega) (by have : (2 : Int) ^ (8 : Int).toNat = 256 := by decide
                                                omega)
  have e2 : (gt (packP l) 2 0).int = 0 := by rw [g 2 (by omega)]; show Ar.std.wrap .u8 (Ar.std.shr .i64 (l.length : Int) 16) = 0; rw [s16]; exact wrapU8 (by omega) (by omega)
  have e3 : (gt (packP l) 3 0).int = 0 := by rw [g 3 (by omega)]; show Ar.std.wrap .u8 (Ar.std.shr .i64 (l.length : Int) 8) = 0; rw [s8]; exact wrapU8 (by omega) (by omega)
  have e4 : (gt (packP l) 4 0).int = l.length := by rw [g 4 (by omega)]; exact wrapU8 (by omega) (by omega)
  have z16 : Ar.std.shl .i64 0 16 = 0 := by show IntKind.wrap .i64 (0 * 2 ^ (Nat.min (Int.toNat 16) (IntKind.bits .i64))) = 0; rw [Int.zero_mul]; exact wrap64 (by omega) (by omega)
  have z8 : Ar.std.shl .i64 0 8 = 0 := by show IntKind.wrap .i64 (0 * 2 ^ (Nat.min (Int.toNat 8) (IntKind.bits .i64))) = 0; rw [Int.zero_mul]; exact wrap64 (by omega) (by omega)
  simp only [v29d, show Int.toNat 2 = 2 from rfl, show Int.toNat 3 = 3 from rfl, show Int.toNat 4 = 4 from rfl, e2, e3, e4, z16, z8]
  rw [or_0 (by omega) (by omega), or_0 (by omega) (by omega)]
theorem pack_sum {l : Rows} (h : EvOk' l) : sumOk (packP l) ∧ v29c (packP l) = (stP l l.length).1 := by
 obtain ⟨l1, l2, l3, l4⟩ := pack_len h
 have e : packP l = (stP l l.length).1 ++ [[.i (sum0 (stP l l.length).1)], [.i (sum1 (stP l l.length).1)]] := rfl
 have n : (((packP l).length : Int) - 2).toNat = (stP l l.length).1.length := by omega
 have c : v29c (packP l) = (stP l l.length).1 := by
  rw [v29c, n, List.drop_zero, e, List.take_left]
 have a : v29a (packP l) = [[.i (sum0 (stP l l.length).1)], [.i (sum1 (stP l l.length).1)]] := by
  rw [v29a, n, l3, e, List.drop_left, show (stP l l.length).1.length + 2 - (stP l l.length).1.length = 2 by omega]
  rfl
 refine ⟨?_, c⟩
 rw [sumOk, a, c]
 exact ⟨rfl, rfl⟩
theorem pack_unp {l : Rows} (h : EvOk' l) (hc : Can l) (hl : l.length ≤ 255) : unpG (dat (packP l)) (cntU (packP l)).toNat [] 0 (4, 1) (4, 1) = some l ∧ unpR (packP l) = (0, l) := by
 obtain ⟨l1, l2, l3, l4⟩ := pack_len h
 have u := unp_ok h hc (pack_rd h) l.length 0 (by omega)
 have b0 : (bitsN (stP l 0) - 40).toNat = 0 := by simp [stP, pkS, hdrP, bitsN]
 rw [b0, List.take_zero] at u
 have u2 : unpG (dat (packP l)) (cntU (packP l)).toNat [] 0 (4, 1) (4, 1) = some l := by
  rw [show cntU (packP l) = (l.length : Int) from pack_cnt h hl, Int.toNat_natCast]
  exact u
 refine ⟨u2, ?_⟩
 rw [unpR, if_neg (by omega), if_neg (fun hn => hn (pack_sum h).1), u2]
 simp only []
 rw [if_neg (by omega), if_pos (eqL_refl _)]
end HX

namespace HX
open Go Go.Proofs CX
structure Pf (d e : Rows) : Prop where
 len : d.length ≤ e.length
 bit : ∀ p, p < 8 * d.length → bAt e p = bAt d p
theorem rdU_mono {d e : Rows} (h : Pf d e) : ∀ f p x, rdU d f p = some x → rdU e f p = some x
 | 0, _, _, h1 => h1
 | f + 1, p, x, h1 => by
  rw [rdU] at h1 ⊢
  split at h1
  ·cases h1
  ·rw [if_neg (by have := h.len; omega), h.bit p (by omega)]
   split at h1
   ·rename_i h3; rw [if_pos h3]; exact h1
   ·rename_i h3; rw [if_neg h3]; exact rdU_mono h f (p + 1) x h1
theorem tkN_mono {d e : Rows} (h : Pf d e) : ∀ n v p, p + n ≤ 8 * d.length → tkN e n v p = tkN d n v p
 | 0, _, _, _ => rfl
 | n + 1, v, p, hp => by rw [tkN, tkN, h.bit p (by omega), tkN_mono h n _ (p + 1) (by omega)]
theorem rdS_mono {d e : Rows} (h : Pf d e) {m : Int × Int} {p : Nat} {x : Int × Nat} (h1 : rdS d m p = some x) : rdS e m p = some x := by
 have hl := h.len
 rw [rdS] at h1 ⊢
 cases hu : rdU d 24 p with
 | none => rw [hu] at h1; cases h1
 | some y =>
  obtain ⟨q, P⟩ := y
  rw [hu] at h1
  rw [rdU_mono h 24 p _ hu]
  simp only [] at h1 ⊢
  split at h1
  ·rename_i h2
   rw [if_pos h2]
   split at h1
   ·cases h1
   ·rename_i h3
    rw [if_neg (by omega), tkN_mono h 31 0 P (by omega)]; exact h1
  ·rename_i h2
   rw [if_neg h2]
   split at h1
   ·cases h1
   ·rename_i h3
    rw [if_neg (by omega), tkN_mono h _ 0 P (by omega)]; exact h1
theorem unp_mono {d e : Rows} (h : Pf d e) : ∀ f out p mt md x, unpG d f out p mt md = some x → unpG e f out p mt md = some x
 | 0, _, _, _, _, _, h1 => h1
 | f + 1, out, p, mt, md, x, h1 => by
  rw [unpG] at h1 ⊢
  cases ha : rdS d mt p with
  | none => rw [ha] at h1; cases h1
  | some y =>
   obtain ⟨g, p1⟩ := y
   rw [ha] at h1
   rw [rdS_mono h ha]
   simp only [] at h1 ⊢
   cases hb : rdS d md p1 with
   | none => rw [hb] at h1; cases h1
   | some z =>
    obtain ⟨v, p2⟩ := z
    rw [hb] at h1
    rw [rdS_mono h hb]
    simp only [] at h1 ⊢
    split at h1
    ·rename_i h2; rw [if_pos h2]; exact unp_mono h f _ _ _ _ x h1
    ·cases h1
theorem unp_ev {d : Rows} : ∀ f out p mt md x, EvOk' out → unpG d f out p mt md = some x → EvOk' x
 | 0, out, _, _, _, x, he, h1 => by simp only [unpG, Option.some.injEq] at h1; rw [← h1]; exact he
 | f + 1, out, p, mt, md, x, he, h1 => by
  rw [unpG] at h1
  cases ha : rdS d mt p with
  | none => rw [ha] at h1; cases h1
  | some y =>
   obtain ⟨g, p1⟩ := y
   rw [ha] at h1
   simp only [] at h1
   cases hb : rdS d md p1 with
   | none => rw [hb] at h1; cases h1
   | some z =>
    obtain ⟨v, p2⟩ := z
    rw [hb] at h1
    simp only [] at h1
    split at h1
    ·rename_i h2; exact unp_ev f _ _ _ _ x (he.push h2) h1
    ·cases h1
theorem unpR_0 {a : Rows} (h : (unpR a).1 = 0) : 7 ≤ a.length ∧ sumOk a ∧ unpG (dat a) (cntU a).toNat [] 0 (4, 1) (4, 1) = some (unpR a).2 ∧ (unpR a).2.length ≤ 65536 ∧ eqL (packP (unpR a).2) a = true := by
 rw [unpR] at h ⊢
 split at h
 ·cases h
 ·rename_i h1
  rw [if_neg h1]
  split at h
  ·cases h
  ·rename_i h2
   rw [if_neg h2]
   cases hu : unpG (dat a) (cntU a).toNat [] 0 (4, 1) (4, 1) with
   | none => rw [hu] at h; cases h
   | some x =>
    rw [hu] at h
    simp only [] at h ⊢
    split at h
    ·cases h
    ·rename_i h3
     rw [if_neg h3]
     split at h
     ·rename_i h4
      rw [if_pos h4]
      exact ⟨by omega, Classical.not_not.1 h2, rfl, Nat.not_lt.1 h3, h4⟩
     ·cases h
theorem eqL_len {a b : Rows} (h : eqL a b = true) : a.length = b.length := (of_decide_eq_true h).1
theorem chk_G {l : Rows} (h : EvOk' l) : ∀ f, f ≤ l.length → chkG l f = 0
 | 0, _ => rfl
 | f + 1, hf => by
  have q : l.length - (f + 1) < l.length := by omega
  obtain ⟨Q, hQ⟩ : ∃ Q, l.length - (f + 1) = Q := ⟨_, rfl⟩
  rw [chkG, hQ]
  rw [hQ] at q
  have lq : (l.take Q).length = Q := by rw [List.length_take]; omega
  rw [if_pos]
  ·exact chk_G h f (by omega)
  ·refine folE_of (h.rt Q q) (h.ri Q q) fun hp => ?_
   rw [lq] at hp ⊢
   have := h.up (Q - 1) (by omega)
   rw [show Q - 1 + 1 = Q by omega] at this
   unfold eT eI at this ⊢
   rw [gt_take (by omega), gt_take (by omega)]
   exact this
theorem chk_0 {l : Rows} (h : EvOk' l) (hl : l.length ≤ 65536) : chkE l = 0 := by
 rw [chkE, if_neg (by omega)]; exact chk_G h _ (Nat.le_refl _)
theorem chk_of : ∀ {l : Rows}, chkE l = 0 → l.length ≤ 65536 := by
 intro l h
 rw [chkE] at h
 split at h <;> omega
section
variable {l : Rows} (h : EvOk' l) (hc : Can l) (hl : l.length ≤ 255)
include h hc hl
theorem no_other {a : Rows} (hcnt : v29d a = v29d (packP l)) (hp : Pf (v29i a) (v29i (packP l)) ∨ Pf (v29i (packP l)) (v29i a)) (hne : a.length ≠ (packP l).length) : ¬ (unpR a).1 = 0 := by
 intro h0
 obtain ⟨_, _, u, _, e⟩ := unpR_0 h0
 obtain ⟨v, _⟩ := pack_unp h hc hl
 rw [show cntU a = v29d a from rfl, hcnt] at u
 have : (unpR a).2 = l := by
  rcases hp with hp | hp
  ·have := unp_mono hp _ _ _ _ _ _ u
   have e := this.symm.trans v
   simpa using e
  ·have := unp_mono hp _ _ _ _ _ _ v
   have e := u.symm.trans this
   simpa using e
 rw [this] at e
 exact hne (eqL_len e).symm
theorem no_less {i : Nat} (hi : i < (packP l).length) : ¬ (unpR ((packP l).take i)).1 = 0 := by
 by_cases h7 : 7 ≤ i
 ·have li : ((packP l).take i).length = i := by rw [List.length_take]; omega
  refine no_other h hc hl ?_ (.inl ⟨?_, fun p hp => ?_⟩) (by omega)
  ·simp only [v29d, show Int.toNat 2 = 2 from rfl, show Int.toNat 3 = 3 from rfl, show Int.toNat 4 = 4 from rfl]
   rw [gt_take (by omega), gt_take (by omega), gt_take (by omega)]
  ·rw [len_dat, len_dat, li]; omega
  ·rw [len_dat, li] at hp
   unfold bAt
   rw [gt_dat (by omega), gt_dat (by omega), gt_take (by omega)]
 ·intro h0
  have := (unpR_0 h0).1
  rw [List.length_take] at this
  omega
theorem no_more {i : Nat} (hi : i < (packP l).length) (h0 : 0 < i) : ¬ (unpR (packP l ++ (packP l).take i)).1 = 0 := by
 have l7 := (pack_len h).1
 have li : (packP l ++ (packP l).take i).length = (packP l).length + i := by rw [List.length_append, List.length_take]; omega
 have g : ∀ j, j < (packP l).length → gt (packP l ++ (packP l).take i) j 0 = gt (packP l) j 0 := fun j hj => by rw [gt_eq, gt_eq, List.getElem?_append_left hj]
 refine no_other h hc hl ?_ (.inr ⟨?_, fun p hp => ?_⟩) (by omega)
 ·simp only [v29d, show Int.toNat 2 = 2 from rfl, show Int.toNat 3 = 3 from rfl, show Int.toNat 4 = 4 from rfl]
  rw [g 2 (by omega), g 3 (by omega), g 4 (by omega)]
 ·rw [len_dat, len_dat, li]; omega
 ·rw [len_dat] at hp
  unfold bAt
  rw [gt_dat (by omega), gt_dat (by omega), g _ (by omega)]
end
theorem sumS_eq {o : Rows} (hb : byL o) : ∀ q, q ≤ o.length → (sumS o (q + 1)).1 = ((sumS o q).1 + (gt o q 0).int) % 255 ∨ o.length = q
 | q, hq => by
  by_cases e : o.length = q
  ·exact .inr e
  ·have a := (sumS_bd hb q hq).1
   have c := hb q (by omega)
   exact .inl (by rw [sumS, Int.tmod_eq_emod_of_nonneg (by omega)])
theorem sum_set {o : Rows} (hb : byL o) {i : Nat} (hi : i < o.length) {x : Int} (hx : 0 ≤ x ∧ x ≤ 255) :
  ∀ q, q ≤ o.length → (sumS (o.set i [.i x]) q).1 = if i < q then ((sumS o q).1 + x - (gt o i 0).int) % 255 else (sumS o q).1
 | 0, _ => by simp [sumS]
 | q + 1, hq => by
  have ih := sum_set hb hi hx q (by omega)
  have hb' : byL (o.set i [.i x]) := by
   intro j hj
   rw [gt_set hi]
   split
   ·exact hx
   ·exact hb j (by simpa using hj)
  have s1 : (sumS o (q + 1)).1 = ((sumS o q).1 + (gt o q 0).int) % 255 := (sumS_eq hb q (by omega)).resolve_right (by omega)
  have s2 : (sumS (o.set i [.i x]) (q + 1)).1 = ((sumS (o.set i [.i x]) q).1 + (gt (o.set i [.i x]) q 0).int) % 255 := (sumS_eq hb' q (by simp; omega)).resolve_right (by simp; omega)
  have bq := (sumS_bd hb q (by omega)).1
  have cq := hb q (by omega)
  have ci := hb i hi
  rw [s2, s1, ih, gt_set hi]
  by_cases e1 : i < q
  ·rw [if_pos e1, if_neg (by omega), if_pos (by omega)]
   omega
  ·by_cases e2 : q = i
   ·subst e2
    rw [if_neg e1, if_pos rfl, if_pos (by omega)]
    show (_ + x) % 255 = _
    omega
   ·rw [if_neg e1, if_neg e2, if_neg (by omega)]
theorem sum0_ne {o : Rows} (hb : byL o) {i : Nat} (hi : i < o.length) {x : Int} (hx : 0 ≤ x ∧ x ≤ 255) (hne : ¬ x % 255 = (gt o i 0).int % 255) : ¬ sum0 (o.set i [.i x]) = sum0 o := by
 have b := (sumS_bd hb o.length (Nat.le_refl _)).1
 have e := sum_set hb hi hx o.length (Nat.le_refl _)
 rw [if_pos hi] at e
 have w : ∀ y : Int, 0 ≤ y → y ≤ 254 → Ar.std.wrap .u8 y = y := fun y h1 h2 => wrapU8 h1 (by omega)
 rw [sum0, sum0, List.length_set, e, w _ (by omega) (by omega), w _ b.1 b.2]
 omega
theorem no_spoilt {l : Rows} (h : EvOk' l) {i : Nat} (hi : i < (packP l).length) {x : Int} (hx : 0 ≤ x ∧ x ≤ 255) (hne : ¬ x % 255 = (gt (packP l) i 0).int % 255) : ¬ (unpR ((packP l).set i [.i x])).1 = 0 := by
 intro h0
 obtain ⟨_, s, _⟩ := unpR_0 h0
 obtain ⟨l1, l2, l3, l4⟩ := pack_len h
 obtain ⟨s1, s2⟩ := (pack_sum h)
 have hb := (pk_step h l.length (Nat.le_refl _)).1.by_
 have e : packP l = (stP l l.length).1 ++ [[.i (sum0 (stP l l.length).1)], [.i (sum1 (stP l l.length).1)]] := rfl
 obtain ⟨o, ho⟩ : ∃ o, (stP l l.length).1 = o := ⟨_, rfl⟩
 rw [ho] at e l3 l4 hb s2
 rw [e] at s hne hi
 clear h0
 have lo : (o ++ [[D.i (sum0 o)], [D.i (sum1 o)]]).length = o.length + 2 := by simp
 have nn : (((o.length + 2 : Nat) : Int) - 2).toNat = o.length := by omega
 by_cases c : i < o.length
 ·have es : (o ++ [[D.i (sum0 o)], [D.i (sum1 o)]]).set i [.i x] = o.set i [.i x] ++ [[D.i (sum0 o)], [D.i (sum1 o)]] := List.set_append_left _ _ c
  rw [es] at s
  have s := s.1
  have lo' : (o.set i [.i x] ++ [[D.i (sum0 o)], [D.i (sum1 o)]]).length = o.length + 2 := by simp
  have ec : v29c (o.set i [.i x] ++ [[D.i (sum0 o)], [D.i (sum1 o)]]) = o.set i [.i x] := by
   rw [v29c, lo', nn, List.drop_zero, List.take_left' (by simp)]
  have ea : v29a (o.set i [.i x] ++ [[D.i (sum0 o)], [D.i (sum1 o)]]) = [[D.i (sum0 o)], [D.i (sum1 o)]] := by
   rw [v29a, lo', nn, List.drop_left' (by simp), show o.length + 2 - o.length = 2 by omega]; rfl
  rw [ec, ea] at s
  have hne' : ¬ x % 255 = (gt o i 0).int % 255 := by
   have : gt (o ++ [[D.i (sum0 o)], [D.i (sum1 o)]]) i 0 = gt o i 0 := by rw [gt_eq, gt_eq, List.getElem?_append_left c]
   rw [this] at hne
   exact hne
  exact sum0_ne hb c hx hne' s.symm
 ·have ic : i = o.length ∨ i = o.length + 1 := by omega
  have ec : ∀ y, v29c (o ++ [y, [D.i (sum1 o)]]) = o := fun y => by
   rw [v29c, show (o ++ [y, [D.i (sum1 o)]]).length = o.length + 2 by simp, nn, List.drop_zero, List.take_left]
  have ec2 : ∀ y, v29c (o ++ [[D.i (sum0 o)], y]) = o := fun y => by
   rw [v29c, show (o ++ [[D.i (sum0 o)], y]).length = o.length + 2 by simp, nn, List.drop_zero, List.take_left]
  have ea : ∀ y z : List D, v29a (o ++ [y, z]) = [y, z] := fun y z => by
   rw [v29a, show (o ++ [y, z]).length = o.length + 2 by simp, nn, List.drop_left, show o.length + 2 - o.length = 2 by omega]; rfl
  rcases ic with rfl | rfl
  ·rw [List.set_append_right _ _ (Nat.le_refl _), Nat.sub_self] at s
   have s := s.1
   rw [show ([[D.i (sum0 o)], [D.i (sum1 o)]] : Rows).set 0 [D.i x] = [[D.i x], [D.i (sum1 o)]] from rfl, ec, ea] at s
   have s : x = sum0 o := s
   have g : gt (o ++ [[D.i (sum0 o)], [D.i (sum1 o)]]) o.length 0 = D.i (sum0 o) := by rw [gt_eq, List.getElem?_append_right (Nat.le_refl _), Nat.sub_self]; rfl
   rw [g] at hne
   exact hne (by rw [s]; rfl)
  ·rw [List.set_append_right _ _ (by omega), show o.length + 1 - o.length = 1 by omega] at s
   have s := s.2
   rw [show ([[D.i (sum0 o)], [D.i (sum1 o)]] : Rows).set 1 [D.i x] = [[D.i (sum0 o)], [D.i x]] from rfl, ec2, ea] at s
   have s : x = sum1 o := s
   have g : gt (o ++ [[D.i (sum0 o)], [D.i (sum1 o)]]) (o.length + 1) 0 = D.i (sum1 o) := by rw [gt_eq, List.getElem?_append_right (by omega), show o.length + 1 - o.length = 1 by omega]; rfl
   rw [g] at hne
   exact hne (by rw [s]; rfl)
theorem yes_same {a : Rows} (h0 : (unpR a).1 = 0) : chkE (unpR a).2 = 0 ∧ Ar.std.strD (pacL (unpR a).2) = Ar.std.strD a := by
 obtain ⟨_, _, u, hl, e⟩ := unpR_0 h0
 have ev := unp_ev _ _ _ _ _ _ ev_nil u
 have c := chk_0 ev hl
 refine ⟨c, ?_⟩
 rw [pacL, if_pos c]
 have e := of_decide_eq_true e
 generalize packP (unpR a).2 = b at e
 show b.map _ = a.map _
 refine List.ext_getElem (by simp [e.1]) fun i h1 h2 => ?_
 simp only [List.length_map] at h1 h2
 have := e.2 i h1
 simp only [List.getElem_map]
 rw [gt_eq, gt_eq, List.getElem?_eq_getElem h1, List.getElem?_eq_getElem h2] at this
 have this : (b[i].getD 0 .nil).int = (a[i].getD 0 .nil).int := this
 rw [this]
end HX

namespace HX
open Go Go.Proofs CX
noncomputable def stmG (l : Rows) (M : Int) : Nat → Int → Int → Rows → Rows
 | 0, _, _, out => out
 | f + 1, id, t, out =>
  let g := Int.tmod (gt l (l.length - (f + 1)) 0).int M
  let c := (gt l (l.length - (f + 1)) 1).int
  if g = 0 ∧ (id + 1) + Int.tmod c 100 ≤ 65535 then
   (if 1073741824 < t then out else stmG l M f (id + (1 + Int.tmod c 100)) t (out ++ [[.i t, .i (id + (1 + Int.tmod c 100))]]))
  else (if 1073741824 < t + mxI 1 g then out else stmG l M f (Int.tmod c 65536) (t + mxI 1 g) (out ++ [[.i (t + mxI 1 g), .i (Int.tmod c 65536)]]))
noncomputable def strm (l : Rows) (m : Int) : Rows := stmG l (Ar.std.wrap .u32 (m + 1)) l.length (-1) 0 []
def u32L (l : Rows) : Prop := ∀ i, i < l.length → (0 ≤ (gt l i 0).int ∧ (gt l i 0).int ≤ 4294967295) ∧ 0 ≤ (gt l i 1).int ∧ (gt l i 1).int ≤ 4294967295
theorem wrapU32 {n : Int} (h1 : 0 ≤ n) (h2 : n ≤ 4294967295) : Ar.std.wrap .u32 n = n := by
 show IntKind.wrap .u32 n = n
 simp [IntKind.wrap, IntKind.bits, IntKind.signed]; omega
theorem tmod_bd {x M : Int} (h : 0 ≤ x) (hM : 0 < M) : 0 ≤ Int.tmod x M ∧ Int.tmod x M < M := by
 rw [Int.tmod_eq_emod_of_nonneg h]
 exact ⟨Int.emod_nonneg _ (by omega), Int.emod_lt_of_pos _ hM⟩
theorem mx1 (g : Int) : 1 ≤ mxI 1 g ∧ g ≤ mxI 1 g ∧ (mxI 1 g = 1 ∨ mxI 1 g = g) := by
 have : mxI 1 g = if 1 < g then g else 1 := rfl
 rw [this]; split <;> omega
theorem law38 {l : Rows} {m : Int} (hu : u32L l) (hl : l.length ≤ 1000) (h0 : 0 ≤ m) (h1 : m ≤ 4000000000) {R : Nat → Nat → D} (hR : R 0 0 = .l (strm l m)) :
  V38 l m R (fun id t out i => ∃ f : Nat, f ≤ l.length ∧ i = (l.length - f : Nat) ∧ stmG l (Ar.std.wrap .u32 (m + 1)) f id t out = strm l m ∧ (-1 ≤ id ∧ id ≤ 65535) ∧ (0 ≤ t ∧ t ≤ 1073741824) ∧ out.length + f ≤ l.length) (fun _ _ _ i => (l.length - i).toNat) := by
 obtain ⟨M, hM⟩ : ∃ M, Ar.std.wrap .u32 (m + 1) = M := ⟨_, rfl⟩
 have hM' : M = m + 1 := by rw [← hM]; exact wrapU32 (by omega) (by omega)
 constructor
 all_goals (try simp only [hM])
 case i0 => exact ⟨l.length, Nat.le_refl _, by omega, by rw [strm, hM], by omega, by omega, by simp⟩
 all_goals (intro id t out i hI; obtain ⟨f, hf, hq, hs, hid, ht, ho⟩ := hI; subst hq; (try simp only [Int.toNat_natCast]); intro hx)
 case g32 =>
  obtain rfl : f = 0 := by omega
  rw [hR, ← hs, stmG]
 all_goals (obtain ⟨g, rfl⟩ : ∃ g, f = g + 1 := ⟨f - 1, by omega⟩)
 all_goals (have hr := hu (l.length - (g + 1)) (by omega))
 all_goals (rw [stmG] at hs; (try simp only [] at hs))
 all_goals (generalize (gt l (l.length - (g + 1)) 0).int = x at hr hs ⊢; generalize (gt l (l.length - (g + 1)) 1).int = c at hr hs ⊢)
 all_goals (have bx := tmod_bd hr.1.1 (show 0 < M by omega); have bc := tmod_bd hr.2.1 (show (0 : Int) < 100 by omega); have bd := tmod_bd hr.2.1 (show (0 : Int) < 65536 by omega); have mx := mx1 (Int.tmod x M))
 all_goals (generalize Int.tmod x M = G at bx mx hs ⊢; generalize mxI 1 G = X at mx hs ⊢; generalize Int.tmod c 100 = C at bc hs ⊢; generalize Int.tmod c 65536 = E at bd hs ⊢)
 all_goals (try simp only [List.length_cons, List.length_nil])
 case g14 => intro h1 h2 h3; rw [if_pos ⟨h1, h2⟩, if_pos h3] at hs; rw [hR, hs]
 case n17 => intro h1 h2 h3; rw [if_pos ⟨h1, h2⟩, if_neg h3] at hs; exact ⟨⟨g, by omega, by omega, hs, by omega, ht, by simp only [List.length_append, List.length_cons, List.length_nil]; omega⟩, by omega⟩
 case g21 => intro h1 h2 h3; rw [if_neg fun h => h2 h.2, if_pos h3] at hs; rw [hR, hs]
 case n24 => intro h1 h2 h3; rw [if_neg fun h => h2 h.2, if_neg h3] at hs; exact ⟨⟨g, by omega, by omega, hs, by omega, by omega, by simp only [List.length_append, List.length_cons, List.length_nil]; omega⟩, by omega⟩
 case g28 => intro h1 h3; rw [if_neg fun h => h1 h.1, if_pos h3] at hs; rw [hR, hs]
 case n31 => intro h1 h3; rw [if_neg fun h => h1 h.1, if_neg h3] at hs; exact ⟨⟨g, by omega, by omega, hs, by omega, by omega, by simp only [List.length_append, List.length_cons, List.length_nil]; omega⟩, by omega⟩
 all_goals (intros; omega)
structure Sm (out : Rows) (id t : Int) : Prop where
 ev : EvOk' out
 can : Can out
 last : 0 < out.length → eT out (out.length - 1) = t ∧ eI out (out.length - 1) = id
 none : out.length = 0 → id = -1 ∧ t = 0
 t0 : 0 ≤ t
 i0 : -1 ≤ id
theorem Sm.push {out : Rows} {id t : Int} (h : Sm out id t) {t2 i2 : Int} (ht : t2 ≤ 1073741824) (hi : 0 ≤ i2 ∧ i2 ≤ 65535) (hn : t < t2 ∨ (t = t2 ∧ id < i2)) : Sm (out ++ [[.i t2, .i i2]]) i2 t2 := by
 have := h.t0
 have e : folE out t2 i2 = 0 := folE_of (by omega) hi fun hp => by
  obtain ⟨a, b⟩ := h.last hp
  rw [a, b]; exact hn
 have newT : eT (out ++ [[D.i t2, D.i i2]]) out.length = t2 := by unfold eT; rw [gtN]; rfl
 have newI : eI (out ++ [[D.i t2, D.i i2]]) out.length = i2 := by unfold eI; rw [gtN]; rfl
 have len : (out ++ [[D.i t2, D.i i2]]).length - 1 = out.length := by simp
 refine ⟨h.ev.push e, fun i hi => ?_, fun _ => by rw [len, newT, newI]; exact ⟨rfl, rfl⟩, fun h => by simp at h, by omega, by omega⟩
 by_cases c : i < out.length
 ·have a := h.can i c
  rw [List.getElem_append_left c, a]
  unfold eT eI
  rw [gtA c, gtA c]
 ·have c : i = out.length := by simp at hi; omega
  subst c
  rw [newT, newI]
  simp
theorem stm_ok {l : Rows} {M : Int} (hu : u32L l) (hM : 0 < M) : ∀ f id t out, f ≤ l.length → Sm out id t → out.length + f ≤ l.length → EvOk' (stmG l M f id t out) ∧ Can (stmG l M f id t out) ∧ (stmG l M f id t out).length ≤ l.length
 | 0, _, _, out, _, h, ho => ⟨h.ev, h.can, ho⟩
 | f + 1, id, t, out, hf, h, ho => by
  have hr := hu (l.length - (f + 1)) (by omega)
  have i0 := h.i0
  rw [stmG]
  generalize (gt l (l.length - (f + 1)) 0).int = x at hr ⊢
  generalize (gt l (l.length - (f + 1)) 1).int = c at hr ⊢
  have bx := tmod_bd hr.1.1 hM
  have bc := tmod_bd hr.2.1 (show (0 : Int) < 100 by omega)
  have bd := tmod_bd hr.2.1 (show (0 : Int) < 65536 by omega)
  have mx := mx1 (Int.tmod x M)
  have same : EvOk' out ∧ Can out ∧ out.length ≤ l.length := ⟨h.ev, h.can, by omega⟩
  split
  ·rename_i h1
   split
   ·exact same
   ·exact stm_ok hu hM f _ _ _ (by omega) (h.push (by omega) (by omega) (by omega)) (by simp only [List.length_append, List.length_cons, List.length_nil]; omega)
  ·split
   ·exact same
   ·exact stm_ok hu hM f _ _ _ (by omega) (h.push (by omega) (by omega) (by omega)) (by simp only [List.length_append, List.length_cons, List.length_nil]; omega)
theorem strm_ok {l : Rows} (hu : u32L l) {m : Int} (h0 : 0 ≤ m) (h1 : m ≤ 4000000000) : EvOk' (strm l m) ∧ Can (strm l m) ∧ (strm l m).length ≤ l.length := by
 rw [strm, wrapU32 (by omega) (by omega)]
 exact stm_ok hu (by omega) _ _ _ _ (Nat.le_refl _) ⟨ev_nil, fun i h => by simp at h, fun h => by simp at h, fun _ => ⟨rfl, rfl⟩, by omega, by omega⟩ (by simp)
theorem pac_by {a : Rows} (hb : byL a) (h0 : (unpR a).1 = 0) : byL (pacL (unpR a).2) := by
 obtain ⟨_, _, u, hl, e⟩ := unpR_0 h0
 rw [pacL, if_pos (yes_same h0).1]
 have e := of_decide_eq_true e
 intro i hi
 rw [e.2 i hi]
 exact hb i (by rw [← e.1]; exact hi)
theorem pack_by {l : Rows} (h : EvOk' l) : byL (packP l) := by
 obtain ⟨l1, l2, l3, l4⟩ := pack_len h
 intro i hi
 have hb := (pk_step h l.length (Nat.le_refl _)).1.by_
 by_cases c : i < (stP l l.length).1.length
 ·rw [pack_gt c]; exact hb i c
 ·have e : packP l = (stP l l.length).1 ++ [[.i (sum0 (stP l l.length).1)], [.i (sum1 (stP l l.length).1)]] := rfl
  have g : gt (packP l) i 0 = if i - (stP l l.length).1.length = 0 then D.i (sum0 (stP l l.length).1) else D.i (sum1 (stP l l.length).1) := by
   have : i - (stP l l.length).1.length = 0 ∨ i - (stP l l.length).1.length = 1 := by omega
   rw [e, gt_eq, List.getElem?_append_right (by omega)]
   rcases this with h | h <;> rw [h] <;> rfl
  rw [g]
  split
  ·exact wrapU8_rng _
  ·exact wrapU8_rng _
set_option maxHeartbeats 8000000 in
theorem law9 {pre : Nat → List (List D) → Prop} {fn : Nat → List (List D) → Nat → Nat → D} (hp13 : pre 13 []) (hf13 : fn 13 [] 0 0 = .b true)
  (hp38 : ∀ l m, u32L l → l.length ≤ 1000 → 0 ≤ m → m ≤ 4000000000 → pre 38 [[.l l], [.i m]]) (hf38 : ∀ l m, fn 38 [[.l l], [.i m]] 0 0 = .l (strm l m))
  (hp27 : ∀ x, pre 27 x) (hf27 : ∀ l, fn 27 [[.l l]] 0 0 = .l (pacL l) ∧ fn 27 [[.l l]] 1 0 = .i (chkE l))
  (hp29 : ∀ l, byL l → l.length ≤ 3000000 → pre 29 [[.l l]]) (hf29 : ∀ l, fn 29 [[.l l]] 0 0 = .l (unpR l).2 ∧ fn 29 [[.l l]] 1 0 = .i (unpR l).1)
  (hp17 : ∀ a, pre 17 [[.l a], [.l a]]) (hf17 : ∀ a b, fn 17 [[.l a], [.l b]] 0 0 = .b true)
  {a0 : Rows} {a1 a2 a3 : Int} (hu : u32L a0) (h1 : 0 ≤ a1) (h2 : 0 ≤ a2) (h2' : a2 ≤ 65535) (h3 : 0 ≤ a3) {R : Nat → Nat → D} (hR : R 0 0 = .b true) : V9 pre fn a0 a1 a2 a3 R := by
 have hi : ∀ n : Int, (D.i n).int = n := fun _ => rfl
 have hbo : ∀ n : Bool, (D.b n).boo = n := fun _ => rfl
 have hrw : ∀ n : Rows, (D.l n).rows = n := fun _ => rfl
 have m1 := tmod_bd h1 (show (0 : Int) < 268435456 by omega)
 obtain ⟨m, hm⟩ : ∃ m, Int.tmod a1 268435456 = m := ⟨_, rfl⟩
 rw [hm] at m1
 obtain ⟨S, hS⟩ : ∃ S, strm a0 m = S := ⟨_, rfl⟩
 have sf := strm_ok hu (m := m) (by omega) (by omega)
 rw [hS] at sf
 obtain ⟨ev, can, sl⟩ := sf
 constructor
 all_goals (try simp only [v9A, v9B, v9C, v9Z, v9a, v9b, v9c, v9d, v9e, v9f, v9g, v9h, v9i, v9j, v9k, v9l, v9m, v9n, v9o, v9p, v9q, v9r, v9s, v9t, hm, hf13, hf38, hf27, hf29, hf17, hi, hbo, hrw, hS, List.nil_append, List.drop_zero])
 case g0 => exact fun _ => hp13
 case g1 => exact fun _ => hR
 all_goals intro hl
 all_goals (have c0 := chk_0 ev (by omega); have eB : pacL S = packP S := if_pos c0)
 all_goals (try simp only [c0, eB])
 all_goals (have pl := pack_len ev; have pb := pack_by ev; have pu := (pack_unp ev can (by omega)).2; have ti := tmod_bd h2 (show 0 < ((packP S).length : Int) by omega))
 all_goals (have nl := fun i (h : i < (packP S).length) => no_less ev can (by omega) h; have nm := fun i (h : i < (packP S).length) => no_more ev can (by omega) h; have ns := fun i (h : i < (packP S).length) x hx => no_spoilt ev h (x := x) hx)
 all_goals (obtain ⟨B, hB⟩ : ∃ B, packP S = B := ⟨_, rfl⟩; simp only [hB] at *)
 all_goals (generalize Int.tmod a2 (B.length : Int) = i at ti ⊢)
 all_goals (obtain ⟨I, rfl⟩ : ∃ I : Nat, i = I := ⟨i.toNat, by omega⟩)
 all_goals (try simp only [Int.toNat_natCast])
 all_goals (have xr := wrapU8_rng ((gt B I 0).int + a3); have xr : 0 ≤ Ar.std.wrap .u8 ((gt B I 0).int + a3) ∧ Ar.std.wrap .u8 ((gt B I 0).int + a3) ≤ 255 := xr)
 all_goals (generalize Ar.std.wrap .u8 ((gt B I 0).int + a3) = x at xr ⊢)
 all_goals
  have sb : byL (B.set I [.i x]) := fun j hj => by
   rw [gt_set (by omega)]
   split
   ·exact xr
   ·exact pb j (by simpa using hj)
  have tb : byL (B.take I) := fun j hj => by
   rw [List.length_take] at hj
   rw [gt_take (by omega)]
   exact pb j (by omega)
  have ab : byL (B ++ B.take I) := fun j hj => by
   by_cases c : j < B.length
   ·rw [show gt (B ++ B.take I) j 0 = gt B j 0 by rw [gt_eq, gt_eq, List.getElem?_append_left c]]; exact pb j c
   ·rw [show gt (B ++ B.take I) j 0 = gt (B.take I) (j - B.length) 0 by rw [gt_eq, gt_eq, List.getElem?_append_right (by omega)]]
    exact tb _ (by rw [List.length_append] at hj; omega)
 all_goals
  have gx : (gt (B.set I [D.i x]) I 0).int = x := by rw [gt_set (by omega), if_pos rfl]; rfl
  have pI := pb I (by omega)
  have ex : Int.tmod x 255 = x % 255 := Int.tmod_eq_emod_of_nonneg xr.1
  have eI' : Int.tmod (gt B I 0).int 255 = (gt B I 0).int % 255 := Int.tmod_eq_emod_of_nonneg pI.1
  have lt1 : (B.take I).length = I := by rw [List.length_take]; omega
  have ls : (B.set I [D.i x]).length = B.length := List.length_set ..
  have la : (B ++ B.take I).length = B.length + I := by rw [List.length_append, lt1]
  (try simp only [gx, ex, eI', pu, lt1, ls, la, List.length_nil])
  have ny := @yes_same (B.set I [.i x])
  have np := @pac_by (B.set I [.i x]) sb
  have nl := nl I (by omega)
  have nm := nm I (by omega)
  have ns := ns I (by omega) x xr
 all_goals intros
 all_goals (first
  | exact hp13 | exact hR | exact hp27 _ | exact hp17 _ | exact hp38 _ _ hu (by omega) (by omega) (by omega)
  | exact hp29 _ pb (by omega) | exact hp29 _ tb (by omega) | exact hp29 _ ab (by omega) | exact hp29 _ sb (by omega)
  | exact sb | exact np ‹_› | omega | contradiction | (exfalso; exact ‹¬ True› trivial; done)
  | (exfalso; exact nl ‹_›; done) | (exfalso; exact nm (by omega) ‹_›; done) | (exfalso; exact ns ‹_› ‹_›; done)
  | (exfalso; exact ‹¬ chkE _ = 0› (ny ‹_›).1; done) | (exfalso; exact ‹¬ Ar.std.strD _ = _› (ny ‹_›).2; done)
  | skip)
end HX

namespace HX
open Go Go.Proofs CX
theorem chkG_all {l : Rows} : ∀ f, f ≤ l.length → chkG l f = 0 → ∀ j, l.length - f ≤ j → j < l.length → folE (l.take j) (eT l j) (eI l j) = 0
 | 0, _, _, j, h1, h2 => by omega
 | f + 1, hf, h, j, h1, h2 => by
  rw [chkG] at h
  split at h
  ·rename_i h3
   by_cases e : j = l.length - (f + 1)
   ·rw [e]; exact h3
   ·exact chkG_all f (by omega) h j (by omega) h2
  ·rename_i h3; exact absurd h h3
theorem chk_ev {l : Rows} (h : chkE l = 0) : l.length ≤ 65536 ∧ EvOk' l := by
 have hl := chk_of h
 rw [chkE, if_neg (by omega)] at h
 have all := fun j hj => folE_0 (chkG_all l.length (Nat.le_refl _) h j (by omega) hj)
 refine ⟨hl, fun i hi => (all i hi).1, fun i hi => (all i hi).2.1, fun i hi => ?_⟩
 have := (all (i + 1) hi).2.2
 have lt : (l.take (i + 1)).length = i + 1 := by rw [List.length_take]; omega
 rw [lt, Nat.add_sub_cancel] at this
 have := this (by omega)
 unfold eT eI at this ⊢
 rw [gt_take (by omega), gt_take (by omega)] at this
 exact this
end HX

namespace HX
open Go Go.Proofs CX
set_option maxHeartbeats 4000000 in
set_option maxRecDepth 100000 in
theorem walk92 {ro A pre fn} (hE : EnvOk ⟨A, (cxE ro), ksF, sigL [], pre, fn⟩) {P : List (List D) → Prop} {res : List (List D) → Nat → Nat → D}
  (hv : ∀ (a0_0 : Int) (a0_1 : Int), P [[.i a0_0, .i a0_1]] → ∃ (I0 : Int → Prop) (m0 : Int → Nat), V92 a0_0 a0_1 (res [[.i a0_0, .i a0_1]]) I0 m0) :
  PureC (cxE ro) 92 ⟨[(true, [.int .i64, .int .i64])], [(false, [.int .i64])], false⟩ P res := by
 have h := hE.A
 simp only [] at h
 have hinl : ∀ f fn, inlL [] f = some fn → (cxE ro).fn f = some fn ∧ (cxE ro).ext f = none := Inls.ok (by repeat (first | exact .nil | refine .cons rfl rfl ?_))
 refine PureC.of_vc hE hinl 6 (f := 92) (fn := Try.f92) ⟨rfl, rfl⟩ ?_
 intro a0_0 a0_1 hP
 obtain ⟨R,hR⟩ : ∃ R,res [[.i a0_0,.i a0_1]] = R := ⟨_,rfl⟩
 rw [hR]
 obtain ⟨I0,m0,hV⟩ := hv a0_0 a0_1  hP
 rw [hR] at hV
 clear hR hP hv
 cbv
 repeat' first|(refine Br.mk (fun _=>?_) (fun _=>?_)<;>cbv)|(refine NilB.mk (fun _=>?_) ?_<;>cbv)|refine And.intro ?_ ?_|exact True.intro
 ·refine Leaf.gen fun σz hσz => ?_
  refine loopB hE hinl 6 [] [] [] (fun x : Int => [.i x]) (fun x => I0 x) (fun x => m0 x) (0) (by subst h;exact hV.i0) ?_ ?_ <;> subst hσz
  ·clear hE hinl hV; cbv; (try repeat' first|rfl|assumption|constructor)
  ·intro x0_0 hI0 K0 hK0
   cbv
   repeat' first|(refine Br.mk (fun _=>?_) (fun _=>?_)<;>cbv)|(refine NilB.mk (fun _=>?_) ?_<;>cbv)|refine And.intro ?_ ?_|exact True.intro
   ·rename_i hp1_0
    subst h;exact hV.g1 _ hI0 (dt hp1_0)
   ·rename_i hp2_0 hp2_1
    subst h;exact hV.g2 _ hI0 (dt hp2_0) (dt hp2_1)
   ·rename_i hp3_0 hp3_1
    refine hK0 (A.add x0_0 1) _ ?_ ?_ ?_
    ·subst h;exact (hV.n3 _ hI0 (dt hp3_0) (dt hp3_1)).1
    ·subst h;exact (hV.n3 _ hI0 (dt hp3_0) (dt hp3_1)).2
    ·clear hE hinl hV hK0; cbv; (try repeat' first|rfl|assumption|constructor)
   ·rename_i hp4_0 hp4_1
    subst h;exact hV.g4 _ hI0 (dt hp4_0) (df hp4_1)
   ·rename_i hp5_0
    subst h;exact hV.g5 _ hI0 (df hp5_0)
end HX

namespace HX
open Go Go.Proofs CX
set_option maxHeartbeats 4000000 in
set_option maxRecDepth 100000 in
theorem walk67 {ro A pre fn} (hE : EnvOk ⟨A, (cxE ro), ksF, sigL [], pre, fn⟩) {P : List (List D) → Prop} {res : List (List D) → Nat → Nat → D}
  (hv : ∀ (a0 : Rows), ShR [.int .u8] a0 → P [[.l a0]] → ∃ (I0 : Int → Int → Int → Prop) (m0 : Int → Int → Int → Nat), V67 a0 (res [[.l a0]]) I0 m0) :
  PureC (cxE ro) 67 ⟨[(false, [.sl [.int .u8]])], [(true, [.int .u8, .int .u8])], false⟩ P res := by
 have h := hE.A
 simp only [] at h
 have hinl : ∀ f fn, inlL [] f = some fn → (cxE ro).fn f = some fn ∧ (cxE ro).ext f = none := Inls.ok (by repeat (first | exact .nil | refine .cons rfl rfl ?_))
 refine PureC.of_vc hE hinl 6 (f := 67) (fn := Try.f67) ⟨rfl, rfl⟩ ?_
 intro a0 ha0 hP
 obtain ⟨R,hR⟩ : ∃ R,res [[.l a0]] = R := ⟨_,rfl⟩
 rw [hR]
 obtain ⟨I0,m0,hV⟩ := hv a0 ha0 hP
 rw [hR] at hV
 clear hR hP hv
 cbv
 repeat' first|(refine Br.mk (fun _=>?_) (fun _=>?_)<;>cbv)|(refine NilB.mk (fun _=>?_) ?_<;>cbv)|refine And.intro ?_ ?_|exact True.intro
 ·refine Leaf.gen fun σz hσz => ?_
  refine loopB hE hinl 6 [] [] [] (fun x : Int × Int × Int => [.i x.1,.i x.2.1,.i x.2.2]) (fun x => I0 x.1 x.2.1 x.2.2) (fun x => m0 x.1 x.2.1 x.2.2) (0,0,0) (by subst h;exact hV.i0) ?_ ?_ <;> subst hσz
  ·clear hE hinl hV; cbv; (try repeat' first|rfl|assumption|constructor)
  ·intro ⟨x0_0, x0_1, x0_2⟩ hI0 K0 hK0
   cbv
   repeat' first|(refine Br.mk (fun _=>?_) (fun _=>?_)<;>cbv)|(refine NilB.mk (fun _=>?_) ?_<;>cbv)|refine And.intro ?_ ?_|exact True.intro
   ·next a=>subst h;exact hV.g1 _ _ _ hI0 (dt a)
   ·next a=>subst h;exact hV.g2 _ _ _ hI0 (dt a)
   ·next a=>subst h;exact hV.g3 _ _ _ hI0 (dt a)
   ·next a=>subst h;exact hV.g4 _ _ _ hI0 (dt a)
   ·next a=>subst h;exact hV.g5 _ _ _ hI0 (dt a)
   ·next a=>subst h;exact hV.g6 _ _ _ hI0 (dt a)
   ·next a=>subst h;exact hV.g7 _ _ _ hI0 (dt a)
   ·next a=>subst h;exact hV.g6 _ _ _ hI0 (dt a)
   ·next a=>subst h;exact hV.g9 _ _ _ hI0 (dt a)
   ·rename_i p10a
    refine hK0 (A.tmod (A.add x0_0 (A.di (A.get a0 (A.toNat x0_2) 0))) 255,A.tmod (A.add x0_1 (A.tmod (A.add x0_0 (A.di (A.get a0 (A.toNat x0_2) 0))) 255)) 255,A.add x0_2 1) _ ?_ ?_ ?_
    ·subst h;exact (hV.n10 _ _ _ hI0 (dt p10a)).1
    ·subst h;exact (hV.n10 _ _ _ hI0 (dt p10a)).2
    ·clear hE hinl hV hK0; cbv; (try repeat' first|rfl|assumption|constructor)
   ·next a=>subst h;exact hV.g11 _ _ _ hI0 (df a)
   ·next a=>subst h;exact hV.g12 _ _ _ hI0 (df a)
end HX

namespace HX
open Go Go.Proofs CX
set_option maxHeartbeats 4000000 in
set_option maxRecDepth 100000 in
theorem walk72 {ro A pre fn} (hE : EnvOk ⟨A, (cxE ro), ksF, sigL [], pre, fn⟩) {P : List (List D) → Prop} {res : List (List D) → Nat → Nat → D}
  (hv : ∀ (a0 : Rows) (a1 : Rows), ShR [.int .u8] a0 → ShR [.int .u8] a1 → P [[.l a0], [.l a1]] → ∃ (I0 : Bool → Int → Prop) (m0 : Bool → Int → Nat), V72 a0 a1 (res [[.l a0], [.l a1]]) I0 m0) :
  PureC (cxE ro) 72 ⟨[(false, [.sl [.int .u8]]), (false, [.sl [.int .u8]])], [(false, [.bool])], false⟩ P res := by
 have h := hE.A
 simp only [] at h
 have hinl : ∀ f fn, inlL [] f = some fn → (cxE ro).fn f = some fn ∧ (cxE ro).ext f = none := Inls.ok (by repeat (first | exact .nil | refine .cons rfl rfl ?_))
 refine PureC.of_vc hE hinl 6 (f := 72) (fn := Try.f72) ⟨rfl, rfl⟩ ?_
 intro a0 ha0 a1 ha1 hP
 obtain ⟨R,hR⟩ : ∃ R,res [[.l a0],[.l a1]] = R := ⟨_,rfl⟩
 rw [hR]
 obtain ⟨I0,m0,hV⟩ := hv a0 a1 ha0 ha1 hP
 rw [hR] at hV
 clear hR hP hv
 cbv
 repeat' first|(refine Br.mk (fun _=>?_) (fun _=>?_)<;>cbv)|(refine NilB.mk (fun _=>?_) ?_<;>cbv)|refine And.intro ?_ ?_|exact True.intro
 ·next a=>subst h;exact hV.g0 (df (nt a))
 ·rename_i p1a
  refine Leaf.gen fun σz hσz => ?_
  refine loopB hE hinl 6 [] [] [] (fun x : Bool × Int => [.b x.1,.i x.2]) (fun x => I0 x.1 x.2) (fun x => m0 x.1 x.2) (false,0) (by subst h;exact hV.i0 (dt (nf p1a))) ?_ ?_ <;> subst hσz
  ·clear hE hinl hV; cbv; (try repeat' first|rfl|assumption|constructor)
  ·intro ⟨x0_0, x0_1⟩ hI0 K0 hK0
   cbv
   repeat' first|(refine Br.mk (fun _=>?_) (fun _=>?_)<;>cbv)|(refine NilB.mk (fun _=>?_) ?_<;>cbv)|refine And.intro ?_ ?_|exact True.intro
   ·next a=>subst h;exact hV.g2 _ _ hI0 (dt (nf p1a)) (dt a)
   ·next a=>subst h;exact hV.g3 _ _ hI0 (dt (nf p1a)) (dt a)
   ·next a=>subst h;exact hV.g4 _ _ hI0 (dt (nf p1a)) (dt a)
   ·next a=>subst h;exact hV.g2 _ _ hI0 (dt (nf p1a)) (dt a)
   ·next a=>subst h;exact hV.g6 _ _ hI0 (dt (nf p1a)) (dt a)
   ·next a=>subst h;exact hV.g7 _ _ hI0 (dt (nf p1a)) (dt a)
   ·next a b=>subst h;exact hV.g8 _ _ hI0 (dt (nf p1a)) (dt a) (df (nt b))
   ·next a b=>subst h;exact hV.g9 _ _ hI0 (dt (nf p1a)) (dt a) (dt (nf b))
   ·rename_i p10a p10b
    refine hK0 (x0_0,A.add x0_1 1) _ ?_ ?_ ?_
    ·subst h;exact (hV.n10 _ _ hI0 (dt (nf p1a)) (dt p10a) (dt (nf p10b))).1
    ·subst h;exact (hV.n10 _ _ hI0 (dt (nf p1a)) (dt p10a) (dt (nf p10b))).2
    ·clear hE hinl hV hK0; cbv; (try repeat' first|rfl|assumption|constructor)
   ·next a=>subst h;exact hV.g11 _ _ hI0 (dt (nf p1a)) (df a)
end HX

namespace HX
open Go Go.Proofs CX
set_option maxHeartbeats 4000000 in
set_option maxRecDepth 100000 in
theorem walk17 {ro A pre fn} (hE : EnvOk ⟨A, (cxE ro), ksF, sigL [], pre, fn⟩) {P : List (List D) → Prop} {res : List (List D) → Nat → Nat → D}
  (hv : ∀ (a0 : Rows) (a1 : Rows), ShR [.int .i64, .int .i64] a0 → ShR [.int .i64, .int .i64] a1 → P [[.l a0], [.l a1]] → ∃ (I0 : Bool → Int → Prop) (m0 : Bool → Int → Nat), V17 a0 a1 (res [[.l a0], [.l a1]]) I0 m0) :
  PureC (cxE ro) 17 ⟨[(false, [.sl [.int .i64, .int .i64]]), (false, [.sl [.int .i64, .int .i64]])], [(false, [.bool])], false⟩ P res := by
 have h := hE.A
 simp only [] at h
 have hinl : ∀ f fn, inlL [] f = some fn → (cxE ro).fn f = some fn ∧ (cxE ro).ext f = none := Inls.ok (by repeat (first | exact .nil | refine .cons rfl rfl ?_))
 refine PureC.of_vc hE hinl 6 (f := 17) (fn := Try.f17) ⟨rfl, rfl⟩ ?_
 intro a0 ha0 a1 ha1 hP
 obtain ⟨R,hR⟩ : ∃ R,res [[.l a0],[.l a1]] = R := ⟨_,rfl⟩
 rw [hR]
 obtain ⟨I0,m0,hV⟩ := hv a0 a1 ha0 ha1 hP
 rw [hR] at hV
 clear hR hP hv
 cbv
 repeat' first|(refine Br.mk (fun _=>?_) (fun _=>?_)<;>cbv)|(refine NilB.mk (fun _=>?_) ?_<;>cbv)|refine And.intro ?_ ?_|exact True.intro
 ·next a=>subst h;exact hV.g0 (df (nt a))
 ·rename_i p1a
  refine Leaf.gen fun σz hσz => ?_
  refine loopB hE hinl 6 [] [] [] (fun x : Bool × Int => [.b x.1,.i x.2]) (fun x => I0 x.1 x.2) (fun x => m0 x.1 x.2) (false,0) (by subst h;exact hV.i0 (dt (nf p1a))) ?_ ?_ <;> subst hσz
  ·clear hE hinl hV; cbv; (try repeat' first|rfl|assumption|constructor)
  ·intro ⟨x0_0, x0_1⟩ hI0 K0 hK0
   cbv
   repeat' first|(refine Br.mk (fun _=>?_) (fun _=>?_)<;>cbv)|(refine NilB.mk (fun _=>?_) ?_<;>cbv)|refine And.intro ?_ ?_|exact True.intro
   ·next a=>subst h;exact hV.g2 _ _ hI0 (dt (nf p1a)) (dt a)
   ·next a=>subst h;exact hV.g3 _ _ hI0 (dt (nf p1a)) (dt a)
   ·next a=>subst h;exact hV.g4 _ _ hI0 (dt (nf p1a)) (dt a)
   ·next a=>subst h;exact hV.g2 _ _ hI0 (dt (nf p1a)) (dt a)
   ·next a=>subst h;exact hV.g6 _ _ hI0 (dt (nf p1a)) (dt a)
   ·next a=>subst h;exact hV.g7 _ _ hI0 (dt (nf p1a)) (dt a)
   ·next a b=>subst h;exact hV.g8 _ _ hI0 (dt (nf p1a)) (dt a) ((and_f (nt b)).imp (fun h => (df h)) (fun h => (df h)))
   ·next a b=>subst h;exact hV.g9 _ _ hI0 (dt (nf p1a)) (dt a) ⟨(dt (and_t (nf b)).1), (dt (and_t (nf b)).2)⟩
   ·rename_i p10a p10b
    refine hK0 (x0_0,A.add x0_1 1) _ ?_ ?_ ?_
    ·subst h;exact (hV.n10 _ _ hI0 (dt (nf p1a)) (dt p10a) ⟨(dt (and_t (nf p10b)).1), (dt (and_t (nf p10b)).2)⟩).1
    ·subst h;exact (hV.n10 _ _ hI0 (dt (nf p1a)) (dt p10a) ⟨(dt (and_t (nf p10b)).1), (dt (and_t (nf p10b)).2)⟩).2
    ·clear hE hinl hV hK0; cbv; (try repeat' first|rfl|assumption|constructor)
   ·next a=>subst h;exact hV.g11 _ _ hI0 (dt (nf p1a)) (df a)
end HX

namespace HX
open Go Go.Proofs CX
set_option maxHeartbeats 4000000 in
set_option maxRecDepth 100000 in
theorem walk50 {ro A pre fn} (hE : EnvOk ⟨A, (cxE ro), ksF, sigL [], pre, fn⟩) {P : List (List D) → Prop} {res : List (List D) → Nat → Nat → D}
  (hv : ∀ (a0 : Int) (a1 : Int) (a2 : Int), P [[.i a0], [.i a1], [.i a2]] → V50 a0 a1 a2 (res [[.i a0], [.i a1], [.i a2]]) ) :
  PureC (cxE ro) 50 ⟨[(false, [.int .i64]), (false, [.int .i64]), (false, [.int .i64])], [(false, [.bool])], false⟩ P res := by
 have hA := hE.A
 simp only [] at hA
 have hinl : ∀ f fn, inlL [] f = some fn → (cxE ro).fn f = some fn ∧ (cxE ro).ext f = none := Inls.ok (by repeat (first | exact .nil | refine .cons rfl rfl ?_))
 refine PureC.of_vc hE hinl 6 (f := 50) (fn := Try.f50) ⟨rfl, rfl⟩ ?_
 intro a0 a1 a2 hP
 obtain ⟨R, hR⟩ : ∃ R, res [[.i a0], [.i a1], [.i a2]] = R := ⟨_, rfl⟩
 rw [hR]
 have hV := hv a0 a1 a2  hP
 rw [hR] at hV
 clear hR hP hv
 cbv
 repeat' (first | (refine Br.mk (fun _ => ?_) (fun _ => ?_) <;> cbv) | (refine NilB.mk (fun _ => ?_) ?_ <;> cbv) | refine And.intro ?_ ?_ | exact True.intro)
 ·rename_i hp0_0
  subst hA; exact hV.g0 (dt hp0_0)
 ·rename_i hp1_0
  subst hA; exact hV.g1 (df hp1_0)
end HX

namespace HX
open Go Go.Proofs CX
set_option maxHeartbeats 4000000 in
set_option maxRecDepth 100000 in
theorem walk100 {ro A pre fn} (hE : EnvOk ⟨A, (cxE ro), ksF, sigL [], pre, fn⟩) {P : List (List D) → Prop} {res : List (List D) → Nat → Nat → D}
  (hv : ∀ (a0 : Int) (a1 : Int), P [[.i a0], [.i a1]] → V100 a0 a1 (res [[.i a0], [.i a1]]) ) :
  PureC (cxE ro) 100 ⟨[(false, [.int .i64]), (false, [.int .i64])], [(false, [.int .i64])], false⟩ P res := by
 have h := hE.A
 simp only [] at h
 have hinl : ∀ f fn, inlL [(112, Try.f112)] f = some fn → (cxE ro).fn f = some fn ∧ (cxE ro).ext f = none := Inls.ok (by repeat (first | exact .nil | refine .cons rfl rfl ?_))
 refine PureC.of_vc hE hinl 6 (f := 100) (fn := Try.f100) ⟨rfl, rfl⟩ ?_
 intro a0 a1 hP
 obtain ⟨R,hR⟩ : ∃ R,res [[.i a0],[.i a1]] = R := ⟨_,rfl⟩
 rw [hR]
 have hV := hv a0 a1  hP
 rw [hR] at hV
 clear hR hP hv
 cbv
 repeat' first|(refine Br.mk (fun _=>?_) (fun _=>?_)<;>cbv)|(refine NilB.mk (fun _=>?_) ?_<;>cbv)|refine And.intro ?_ ?_|exact True.intro
 ·rename_i hp0_0 hp0_1
  subst h;exact hV.g0 (df (nt hp0_0)) (df (nt hp0_1))
 ·rename_i hp1_0 hp1_1
  subst h;exact hV.g1 (df (nt hp1_0)) (dt (nf hp1_1))
 ·rename_i hp2_0 hp2_1
  subst h;exact hV.g2 (dt (nf hp2_0)) (df (nt hp2_1))
 ·rename_i hp3_0 hp3_1 hp3_2
  subst h;exact hV.g3 (dt (nf hp3_0)) (dt (nf hp3_1)) (dt hp3_2)
 ·rename_i hp4_0 hp4_1 hp4_2 hp4_3
  subst h;exact hV.g4 (dt (nf hp4_0)) (dt (nf hp4_1)) (df hp4_2) (dt hp4_3)
 ·rename_i hp5_0 hp5_1 hp5_2 hp5_3
  subst h;exact hV.g5 (dt (nf hp5_0)) (dt (nf hp5_1)) (df hp5_2) (df hp5_3)
end HX

namespace HX
open Go Go.Proofs CX
set_option maxHeartbeats 4000000 in
set_option maxRecDepth 100000 in
theorem walk76 {ro A pre fn} (hE : EnvOk ⟨A, (cxE ro), ksF, sigL [(100, ⟨[(false, [.int .i64]), (false, [.int .i64])], [(false, [.int .i64])], false⟩)], pre, fn⟩) {P : List (List D) → Prop} {res : List (List D) → Nat → Nat → D}
  (hv : ∀ (a0_0 : Int) (a0_1 : Int) (a1_0 : Int) (a1_1 : Int), P [[.i a0_0, .i a0_1], [.i a1_0, .i a1_1]] → ∃ (I0 : Int → Int → Prop) (m0 : Int → Int → Nat), V76 pre fn a0_0 a0_1 a1_0 a1_1 (res [[.i a0_0, .i a0_1], [.i a1_0, .i a1_1]]) I0 m0) :
  PureC (cxE ro) 76 ⟨[(true, [.int .i64, .int .i64]), (true, [.int .i64, .int .i64])], [(false, [.int .i64])], false⟩ P res := by
 have h := hE.A
 simp only [] at h
 have hinl : ∀ f fn, inlL [(99, Try.f99)] f = some fn → (cxE ro).fn f = some fn ∧ (cxE ro).ext f = none := Inls.ok (by repeat (first | exact .nil | refine .cons rfl rfl ?_))
 refine PureC.of_vc hE hinl 6 (f := 76) (fn := Try.f76) ⟨rfl, rfl⟩ ?_
 intro a0_0 a0_1 a1_0 a1_1 hP
 obtain ⟨R,hR⟩ : ∃ R,res [[.i a0_0,.i a0_1],[.i a1_0,.i a1_1]] = R := ⟨_,rfl⟩
 rw [hR]
 obtain ⟨I0,m0,hV⟩ := hv a0_0 a0_1 a1_0 a1_1  hP
 rw [hR] at hV
 clear hR hP hv
 cbv
 repeat' first|(refine Br.mk (fun _=>?_) (fun _=>?_)<;>cbv)|(refine NilB.mk (fun _=>?_) ?_<;>cbv)|refine And.intro ?_ ?_|exact True.intro
 ·subst h;exact hV.g0
 ·subst h;exact hV.g1
 ·refine Leaf.gen fun σz hσz => ?_
  refine loopB hE hinl 6 [] [] [] (fun x : Int × Int => [.i x.1,.i x.2]) (fun x => I0 x.1 x.2) (fun x => m0 x.1 x.2) (0,0) (by subst h;exact hV.i0) ?_ ?_ <;> subst hσz
  ·clear hE hinl hV; cbv; (try repeat' first|rfl|assumption|constructor)
  ·intro ⟨x0_0, x0_1⟩ hI0 K0 hK0
   cbv
   repeat' first|(refine Br.mk (fun _=>?_) (fun _=>?_)<;>cbv)|(refine NilB.mk (fun _=>?_) ?_<;>cbv)|refine And.intro ?_ ?_|exact True.intro
   ·next a=>subst h;exact hV.g3 _ _ hI0 (dt a)
   ·next a=>subst h;exact hV.g4 _ _ hI0 (dt a)
   ·next a=>subst h;exact hV.g5 _ _ hI0 (dt a)
   ·next a b=>subst h;exact hV.g6 _ _ hI0 (dt a) (df (nt b))
   ·next a b=>subst h;exact hV.g7 _ _ hI0 (dt a) (dt (nf b))
   ·rename_i p8a p8b
    refine hK0 (x0_0,A.add x0_1 1) _ ?_ ?_ ?_
    ·subst h;exact (hV.n8 _ _ hI0 (dt p8a) (dt (nf p8b))).1
    ·subst h;exact (hV.n8 _ _ hI0 (dt p8a) (dt (nf p8b))).2
    ·clear hE hinl hV hK0; cbv; (try repeat' first|rfl|assumption|constructor)
   ·next a=>subst h;exact hV.g9 _ _ hI0 (df a)
end HX

namespace HX
open Go Go.Proofs CX
set_option maxHeartbeats 4000000 in
set_option maxRecDepth 100000 in
theorem walk71 {ro A pre fn} (hE : EnvOk ⟨A, (cxE ro), ksF, sigL [(50, ⟨[(false, [.int .i64]), (false, [.int .i64]), (false, [.int .i64])], [(false, [.bool])], false⟩), (76, ⟨[(true, [.int .i64, .int .i64]), (true, [.int .i64, .int .i64])], [(false, [.int .i64])], false⟩)], pre, fn⟩) {P : List (List D) → Prop} {res : List (List D) → Nat → Nat → D}
  (hv : ∀ (a0 : Rows) (a1_0 : Int) (a1_1 : Int), ShR [.int .i64, .int .i64] a0 → P [[.l a0], [.i a1_0, .i a1_1]] → V71 pre fn a0 a1_0 a1_1 (res [[.l a0], [.i a1_0, .i a1_1]]) ) :
  PureC (cxE ro) 71 ⟨[(false, [.sl [.int .i64, .int .i64]]), (true, [.int .i64, .int .i64])], [(false, [.int .i64])], false⟩ P res := by
 have h := hE.A
 simp only [] at h
 have hinl : ∀ f fn, inlL [] f = some fn → (cxE ro).fn f = some fn ∧ (cxE ro).ext f = none := Inls.ok (by repeat (first | exact .nil | refine .cons rfl rfl ?_))
 refine PureC.of_vc hE hinl 6 (f := 71) (fn := Try.f71) ⟨rfl, rfl⟩ ?_
 intro a0 ha0 a1_0 a1_1 hP
 obtain ⟨R,hR⟩ : ∃ R,res [[.l a0],[.i a1_0,.i a1_1]] = R := ⟨_,rfl⟩
 rw [hR]
 have hV := hv a0 a1_0 a1_1 ha0 hP
 rw [hR] at hV
 clear hR hP hv
 cbv
 repeat' first|(refine Br.mk (fun _=>?_) (fun _=>?_)<;>cbv)|(refine NilB.mk (fun _=>?_) ?_<;>cbv)|refine And.intro ?_ ?_|exact True.intro
 ·subst h;exact hV.g0
 ·next a=>subst h;exact hV.g1 (nt a)
 ·next a=>subst h;exact hV.g2 (nf a)
 ·next a b=>subst h;exact hV.g3 (nf a) (nt b)
 ·next a b c=>subst h;exact hV.g4 (nf a) (nf b) (dt c)
 ·next a b c=>subst h;exact hV.g5 (nf a) (nf b) (dt c)
 ·next a b c=>subst h;exact hV.g6 (nf a) (nf b) (dt c)
 ·next a b c=>subst h;exact hV.g7 (nf a) (nf b) (dt c)
 ·next a b c=>subst h;exact hV.g8 (nf a) (nf b) (dt c)
 ·next a b c d=>subst h;exact hV.g9 (nf a) (nf b) (dt c) (dt d)
 ·next a b c d=>subst h;exact hV.g10 (nf a) (nf b) (dt c) (df d)
 ·next a b c=>subst h;exact hV.g11 (nf a) (nf b) (df c)
end HX

namespace HX
open Go Go.Proofs CX
set_option maxHeartbeats 4000000 in
set_option maxRecDepth 100000 in
theorem walk51 {ro A pre fn} (hE : EnvOk ⟨A, (cxE ro), ksF, sigL [(71, ⟨[(false, [.sl [.int .i64, .int .i64]]), (true, [.int .i64, .int .i64])], [(false, [.int .i64])], false⟩)], pre, fn⟩) {P : List (List D) → Prop} {res : List (List D) → Nat → Nat → D}
  (hv : ∀ (a0 : Rows), ShR [.int .i64, .int .i64] a0 → P [[.l a0]] → ∃ (I0 : Int → Int → Prop) (m0 : Int → Int → Nat), V51 pre fn a0 (res [[.l a0]]) I0 m0) :
  PureC (cxE ro) 51 ⟨[(false, [.sl [.int .i64, .int .i64]])], [(false, [.int .i64])], false⟩ P res := by
 have h := hE.A
 simp only [] at h
 have hinl : ∀ f fn, inlL [] f = some fn → (cxE ro).fn f = some fn ∧ (cxE ro).ext f = none := Inls.ok (by repeat (first | exact .nil | refine .cons rfl rfl ?_))
 refine PureC.of_vc hE hinl 6 (f := 51) (fn := Try.f51) ⟨rfl, rfl⟩ ?_
 intro a0 ha0 hP
 obtain ⟨R,hR⟩ : ∃ R,res [[.l a0]] = R := ⟨_,rfl⟩
 rw [hR]
 obtain ⟨I0,m0,hV⟩ := hv a0 ha0 hP
 rw [hR] at hV
 clear hR hP hv
 cbv
 repeat' first|(refine Br.mk (fun _=>?_) (fun _=>?_)<;>cbv)|(refine NilB.mk (fun _=>?_) ?_<;>cbv)|refine And.intro ?_ ?_|exact True.intro
 ·next a=>subst h;exact hV.g0 (dt a)
 ·rename_i p1a
  refine Leaf.gen fun σz hσz => ?_
  refine loopB hE hinl 6 [] [] [] (fun x : Int × Int => [.i x.1,.i x.2]) (fun x => I0 x.1 x.2) (fun x => m0 x.1 x.2) (0,0) (by subst h;exact hV.i0 (df p1a)) ?_ ?_ <;> subst hσz
  ·clear hE hinl hV; cbv; (try repeat' first|rfl|assumption|constructor)
  ·intro ⟨x0_0, x0_1⟩ hI0 K0 hK0
   cbv
   repeat' first|(refine Br.mk (fun _=>?_) (fun _=>?_)<;>cbv)|(refine NilB.mk (fun _=>?_) ?_<;>cbv)|refine And.intro ?_ ?_|exact True.intro
   ·next a=>subst h;exact hV.g2 _ _ hI0 (df p1a) (dt a)
   ·next a=>subst h;exact hV.g3 _ _ hI0 (df p1a) (dt a)
   ·next a=>subst h;exact hV.g4 _ _ hI0 (df p1a) (dt a)
   ·next a=>subst h;exact hV.g2 _ _ hI0 (df p1a) (dt a)
   ·next a=>subst h;exact hV.g6 _ _ hI0 (df p1a) (dt a)
   ·next a=>subst h;exact hV.g7 _ _ hI0 (df p1a) (dt a)
   ·next a b=>subst h;exact hV.g8 _ _ hI0 (df p1a) (dt a) (df (nt b))
   ·next a b=>subst h;exact hV.g9 _ _ hI0 (df p1a) (dt a) (dt (nf b))
   ·rename_i p10a p10b
    refine hK0 (x0_0,A.add x0_1 1) _ ?_ ?_ ?_
    ·subst h;exact (hV.n10 _ _ hI0 (df p1a) (dt p10a) (dt (nf p10b))).1
    ·subst h;exact (hV.n10 _ _ hI0 (df p1a) (dt p10a) (dt (nf p10b))).2
    ·clear hE hinl hV hK0; cbv; (try repeat' first|rfl|assumption|constructor)
   ·next a=>subst h;exact hV.g11 _ _ hI0 (df p1a) (df a)
end HX

namespace HX
open Go CX
def headId : Code → Nat
 | .region id _ _ => id
 | .seq a _ => headId a
 | .block _ b => headId b
 | _ => 0
def memB : List Nat → Nat → Bool
 | [], _ => false
 | a :: r, x => match beqN a x with
  | true => true
  | false => memB r x
def vcJ (E : Env) (rd : Option Nat) (lo : Nat) (ci : CI) (js : List Nat) : Code → (Ex → St → Prop) → St → Prop
 | .seq a b, Q, σ => vcJ E rd lo ci js a (thenQ (fun σ' => vcJ E rd lo ci js b Q σ') Q) σ
 | .block id b, Q, σ => vcJ E rd lo ci js b (inBlockQ id Q) σ
 | .cond c a b, Q, σ => match memB js (headId a) with
  | true => Leaf E.E rd lo (.cond c a b) Q σ
  | false => match evR σ.regs c with
   | .bool true => vcJ E rd lo ci js a Q σ
   | .bool false => vcJ E rd lo ci js b Q σ
   | .sym p => Br p (fun _ => vcJ E rd lo ci js a Q (knowO σ c true)) (fun _ => vcJ E rd lo ci js b Q (knowO σ c false))
   | _ => StuckC (.cond c .skip .skip) σ
 | .region id ops draw, Q, σ => match memB js id with
  | true => Leaf E.E rd lo (.region id ops draw) Q σ
  | false => vc E rd lo ci (.region id ops draw) Q σ
 | c, Q, σ => vc E rd lo ci c Q σ
section
variable {E : Env} (hE : EnvOk E)
include hE
theorem vcJ_ok {ci : CI} (hci : CIOk E.E ci) (js : List Nat) {rd : Option Nat} {lo : Nat} : ∀ (c : Code) (Q : Ex → St → Prop) (σ : St), vcJ E rd lo ci js c Q σ → SWP E.E rd lo c Q σ
 | .seq a b, Q, σ, h => fun C S hS hlo hrd => by
  obtain ⟨e, S1, C1, σ1, k1, k2, k3, k4⟩ := vcJ_ok hci js a _ σ h C S hS hlo hrd
  cases e with
  | normal =>
   obtain ⟨e, S2, C2, σ2, l1, l2, l3, l4⟩ := vcJ_ok hci js b Q σ1 k4 C1 S1 k2 k3.m.le hrd
   refine ⟨e, S2, C2, σ2, (k1.and l1).succ fun n hn => ?_, l2, k3.trans l3, l4⟩
   show cxBody E.E (cx E.E n) (rd.map C.ids) (.seq a b) S = _
   have hn2 := hn.2
   rw [rd_ag hE hrd k3.m.ag] at hn2
   simp only [cxBody, hn.1, hn2]
  | ret =>
   refine ⟨.ret, S1, C1, σ1, k1.succ fun n hn => ?_, k2, k3, k4⟩
   show cxBody E.E (cx E.E n) (rd.map C.ids) (.seq a b) S = _
   simp only [cxBody, hn]
  | exit i =>
   refine ⟨.exit i, S1, C1, σ1, k1.succ fun n hn => ?_, k2, k3, k4⟩
   show cxBody E.E (cx E.E n) (rd.map C.ids) (.seq a b) S = _
   simp only [cxBody, hn]
 | .block id b, Q, σ, h => fun C S hS hlo hrd => by
  obtain ⟨e, S1, C1, σ1, k1, k2, k3, k4⟩ := vcJ_ok hci js b _ σ h C S hS hlo hrd
  cases e with
  | normal =>
   refine ⟨.normal, S1, C1, σ1, k1.succ fun n hn => ?_, k2, k3, k4⟩
   show cxBody E.E (cx E.E n) (rd.map C.ids) (.block id b) S = _
   simp only [cxBody, hn]
  | ret =>
   refine ⟨.ret, S1, C1, σ1, k1.succ fun n hn => ?_, k2, k3, k4⟩
   show cxBody E.E (cx E.E n) (rd.map C.ids) (.block id b) S = _
   simp only [cxBody, hn]
  | exit i =>
   simp only [inBlockQ] at k4
   split at k4
   ·rename_i hb
    simp only [beqN_iff] at hb
    refine ⟨.normal, S1, C1, σ1, k1.succ fun n hn => ?_, k2, k3, k4⟩
    show cxBody E.E (cx E.E n) (rd.map C.ids) (.block id b) S = _
    simp only [cxBody, hn, hb, Nat.beq_refl]
   ·rename_i hb
    simp only [beqN_not] at hb
    refine ⟨.exit i, S1, C1, σ1, k1.succ fun n hn => ?_, k2, k3, k4⟩
    show cxBody E.E (cx E.E n) (rd.map C.ids) (.block id b) S = _
    have hne : Nat.beq i id = false := by
     cases he : Nat.beq i id with
     | true => exact absurd (Nat.eq_of_beq_eq_true he) hb
     | false => rfl
    simp only [cxBody, hn, hne]
 | .cond c a b, Q, σ, h => fun C S hS hlo hrd => by
  simp only [vcJ] at h
  split at h
  ·exact h.out C S hS hlo hrd
  have hx := evR_ok hS.regs
  have go : ∀ (bb : Bool) (σ : St), Sim C σ S → lo ≤ σ.next → CX.evR S.regs c = some (.bool bb) → (match bb with | true => vcJ E rd lo ci js a Q σ | false => vcJ E rd lo ci js b Q σ) → ∃ e S' C' σ', Evt (fun n => cx E.E n (rd.map C.ids) (.cond c a b) S = some (e, S')) ∧ Sim C' σ' S' ∧ Ext lo C σ S C' σ' S' ∧ Q e σ' := by
   intro bb σ hS hlo hb h
   cases bb with
   | true =>
    obtain ⟨e, S1, C1, σ1, k1, k2, k3, k4⟩ := vcJ_ok hci js a Q σ h C S hS hlo hrd
    refine ⟨e, S1, C1, σ1, k1.succ fun n hn => ?_, k2, k3, k4⟩
    show cxBody E.E (cx E.E n) (rd.map C.ids) (.cond c a b) S = _
    simp only [cxBody, hb, hn]
   | false =>
    obtain ⟨e, S1, C1, σ1, k1, k2, k3, k4⟩ := vcJ_ok hci js b Q σ h C S hS hlo hrd
    refine ⟨e, S1, C1, σ1, k1.succ fun n hn => ?_, k2, k3, k4⟩
    show cxBody E.E (cx E.E n) (rd.map C.ids) (.cond c a b) S = _
    simp only [cxBody, hb, hn]
  have kn : ∀ bb, CX.evR S.regs c = some (.bool bb) → Sim C (knowO σ c bb) S ∧ lo ≤ (knowO σ c bb).next ∧ Ext lo C σ S C (knowO σ c bb) S := by
   intro bb hb
   unfold knowO
   split
   ·exact ⟨⟨hS.nt, know_ok hS.regs hb, hS.m, hS.df, hS.dflt⟩, hlo, (MExt.refl _ _ _ _ _).less hlo, rfl, fun _ h => .inl h⟩
   ·exact ⟨hS, hlo, Ext.refl _ _ _ hlo⟩
  split at h
  ·rename_i he
   obtain ⟨v, v1, v2⟩ := hx.get he (by intro e; cases e)
   simp only [RvS] at v2
   subst v2
   exact go true σ hS hlo v1 h
  ·rename_i he
   obtain ⟨v, v1, v2⟩ := hx.get he (by intro e; cases e)
   simp only [RvS] at v2
   subst v2
   exact go false σ hS hlo v1 h
  ·rename_i p he
   obtain ⟨v, v1, v2⟩ := hx.get he (by intro e; cases e)
   simp only [RvS] at v2
   subst v2
   cases hp : p with
   | true => rw [hp] at v1; exact let ⟨e, S', C', σ', k1, k2, k3, k4⟩ := go true (knowO σ c true) (kn true v1).1 (kn true v1).2.1 v1 (h.t hp); ⟨e, S', C', σ', k1, k2, (kn true v1).2.2.trans k3, k4⟩
   | false => rw [hp] at v1; exact let ⟨e, S', C', σ', k1, k2, k3, k4⟩ := go false (knowO σ c false) (kn false v1).1 (kn false v1).2.1 v1 (h.e hp); ⟨e, S', C', σ', k1, k2, (kn false v1).2.2.trans k3, k4⟩
  ·exact h.out.elim
 | .region id ops draw, Q, σ, h => by
  simp only [vcJ] at h
  split at h
  ·exact h.out
  ·exact vc_ok hE hci _ Q σ h
 | .skip, Q, σ, h => vc_ok hE hci _ Q σ h
 | .label _, Q, σ, h => vc_ok hE hci _ Q σ h
 | .ret, Q, σ, h => vc_ok hE hci _ Q σ h
 | .exit _, Q, σ, h => vc_ok hE hci _ Q σ h
 | .loop _, Q, σ, h => vc_ok hE hci _ Q σ h
 | .rangeFunc .., Q, σ, h => vc_ok hE hci _ Q σ h
 | .scope .., Q, σ, h => vc_ok hE hci _ Q σ h
 | .goto .., Q, σ, h => vc_ok hE hci _ Q σ h
 | .refuse .., Q, σ, h => vc_ok hE hci _ Q σ h
end
def killL (kl : List Nat) : List (Nat × SV) → List (Nat × SV)
 | [] => []
 | (t, v) :: r => match memB kl t with
  | true => killL kl r
  | false => (t, v) :: killL kl r
def killR (kl : List Nat) (σ : St) : St := ⟨σ.nt, killL kl σ.regs, σ.objs, σ.next, σ.df⟩
theorem joinB {E : Env} (hE : EnvOk E) {inl : Nat → Option Func} (hinl : ∀ f fn, inl f = some fn → E.E.fn f = some fn ∧ E.E.ext f = none) {rd : Option Nat} {lo : Nat} (n : Nat) (kl fz drop : List Nat) (names : List (Nat × List Nat)) {c : Code} {Q : Ex → St → Prop} {σ : St} {X : Type} (vals : X → List D) (J : X → Prop)
  (run : ∀ K : St → Prop, (∀ x σ', J x → subP lo (frzT fz σ') (updT E lo c (killR kl (frzT fz σ)) drop names (vals x)) → K σ') → vc E rd lo (ciN E inl n) c (thenQ K Q) σ)
  (cont : ∀ x, J x → Q .normal (updT E lo c (killR kl (frzT fz σ)) drop names (vals x))) : Leaf E.E rd lo c Q σ := by
 refine ⟨fun C S hS hlo hrd => ?_⟩
 obtain ⟨e, S1, C1, σ1, k1, k2, k3, k4⟩ := vc_ok hE (ciN_ok hE hinl n) c _ σ (run (fun σ' => ∃ x, J x ∧ Sub lo σ' (updT E lo c (killR kl (frzT fz σ)) drop names (vals x))) fun x σ' h1 h2 => ⟨x, h1, (subP_ok h2).frz fz⟩) C S hS hlo hrd
 cases e with
 | normal =>
  obtain ⟨x, hx, hs⟩ := k4
  obtain ⟨C2, s1, s2⟩ := hs _ C1 S1 k2 k3.m.le
  exact ⟨.normal, S1, C2, _, k1, s1, k3.trans s2, cont x hx⟩
 | ret => exact ⟨_, S1, C1, σ1, k1, k2, k3, k4⟩
 | exit i => exact ⟨_, S1, C1, σ1, k1, k2, k3, k4⟩
def addR (nr : List (Nat × SV)) (σ : St) : St := ⟨σ.nt, nr ++ σ.regs, σ.objs, σ.next, σ.df⟩
theorem joinR {E : Env} (hE : EnvOk E) {inl : Nat → Option Func} (hinl : ∀ f fn, inl f = some fn → E.E.fn f = some fn ∧ E.E.ext f = none) {rd : Option Nat} {lo : Nat} (n : Nat) (kl fz drop : List Nat) (nr : List (Nat × SV)) (names : List (Nat × List Nat)) {c : Code} {Q : Ex → St → Prop} {σ : St} {X : Type} (vals : X → List D) (J : X → Prop)
  (run : ∀ K : St → Prop, (∀ x σ', J x → subP lo (frzT fz σ') (updT E lo c (addR nr (killR kl (frzT fz σ))) drop names (vals x)) → K σ') → vc E rd lo (ciN E inl n) c (thenQ K Q) σ)
  (cont : ∀ x, J x → Q .normal (updT E lo c (addR nr (killR kl (frzT fz σ))) drop names (vals x))) : Leaf E.E rd lo c Q σ := by
 refine ⟨fun C S hS hlo hrd => ?_⟩
 obtain ⟨e, S1, C1, σ1, k1, k2, k3, k4⟩ := vc_ok hE (ciN_ok hE hinl n) c _ σ (run (fun σ' => ∃ x, J x ∧ Sub lo σ' (updT E lo c (addR nr (killR kl (frzT fz σ))) drop names (vals x))) fun x σ' h1 h2 => ⟨x, h1, (subP_ok h2).frz fz⟩) C S hS hlo hrd
 cases e with
 | normal =>
  obtain ⟨x, hx, hs⟩ := k4
  obtain ⟨C2, s1, s2⟩ := hs _ C1 S1 k2 k3.m.le
  exact ⟨.normal, S1, C2, _, k1, s1, k3.trans s2, cont x hx⟩
 | ret => exact ⟨_, S1, C1, σ1, k1, k2, k3, k4⟩
 | exit i => exact ⟨_, S1, C1, σ1, k1, k2, k3, k4⟩
theorem loopBJ {E : Env} (hE : EnvOk E) (js : List Nat) {inl : Nat → Option Func} (hinl : ∀ f fn, inl f = some fn → E.E.fn f = some fn ∧ E.E.ext f = none) {rd : Option Nat} {lo : Nat} (n : Nat) (fz drop : List Nat) (names : List (Nat × List Nat)) {c : Code} {Q : Ex → St → Prop} {σ : St} {X : Type} (vals : X → List D) (Inv : X → Prop) (μ : X → Nat) (x0 : X) (h0 : Inv x0)
  (hs : subP lo (frzT fz σ) (updT E lo c (frzT fz σ) drop names (vals x0)))
  (round : ∀ x, Inv x → ∀ K : St → Prop, (∀ x' σ', Inv x' → μ x' < μ x → subP lo (frzT fz σ') (updT E lo c (frzT fz σ) drop names (vals x')) → K σ') → vcJ E rd lo (ciN E inl n) js c (endQ K Q) (updT E lo c (frzT fz σ) drop names (vals x))) :
  Leaf E.E rd lo (.loop c) Q σ := by
 refine ⟨loop_ok (fun x => updT E lo c (frzT fz σ) drop names (vals x)) Inv μ x0 h0 ((subP_ok hs).frz fz) (fun _ => updT_lo) fun x hx => ?_⟩
 have e : loopQ lo (fun x => updT E lo c (frzT fz σ) drop names (vals x)) Inv μ Q x = endQ (fun σ' => ∃ x', Inv x' ∧ μ x' < μ x ∧ Sub lo σ' (updT E lo c (frzT fz σ) drop names (vals x'))) Q := by
  funext e σ'
  cases e <;> rfl
 rw [e]
 exact vcJ_ok hE (ciN_ok hE hinl n) js c _ _ (round x hx _ fun x' σ' h1 h2 h3 => ⟨x', h1, h2, (subP_ok h3).frz fz⟩)
def fnVCJ (js : List Nat) (b0 n0 : Nat) (E : Env) (inl : Nat → Option Func) (n : Nat) (fn : Func) (sg : Sig) (r : Nat → Nat → D) (ds : List (List D)) : Prop :=
 match fn.body with
 | some c => match argsSV b0 sg.params ds with
  | some vs => match bleN vs.length fn.ntmps with
   | true => vcJ E none 0 (ciN E inl n) js c (retX E fn sg r) ⟨fn.ntmps, enterS 0 vs, [], n0, []⟩
   | false => False
  | none => False
 | none => False
theorem of_vcGJ {E : Env} (hE : EnvOk E) (js : List Nat) {inl : Nat → Option Func} (hinl : ∀ f fn, inl f = some fn → E.E.fn f = some fn ∧ E.E.ext f = none) (n : Nat) {f : Nat} {fn : Func} {sg : Sig} {pre : List (List D) → Prop} {res : List (List D) → Nat → Nat → D} (hf : E.E.fn f = some fn ∧ E.E.ext f = none)
  (b0 n0 : Nat) (hb0 : b0 ≤ n0) (h : allA sg.params fun ds => pre ds → fnVCJ js b0 n0 E inl n fn sg (res ds) ds) {ds : List (List D)} (hpre : pre ds) {g : Nat → Option O} {bar nx : Nat} {hp : T O} {args : List V} (C : Cx E.E.ro) (hCg : C.g = g) (hM : MSim C [] n0 bar hp.get nx)
  (hargs : ArgsFz E.E.ro C.g (C.bd b0) sg.params ds args) :
  ∃ (vs : List V) (h' : T O) (nx' : Nat) (g' : Nat → Option O), Evt (fun n => ∀ k, callF E.E (cx E.E n) bar hp nx f args k = k (CX.one vs) h' nx') ∧ nx ≤ nx' ∧ (∀ id, id < nx → h'.get id = hp.get id) ∧ (∀ id o, g id = some o → g' id = some o) ∧
   (∀ id o, g' id = some o → (id < nx' ∧ h'.get id = some o) ∧ (g id = some o ∨ nx ≤ id)) ∧ ResFz E.E.ro g' nx' (res ds) sg.results 0 vs := by
 subst hCg
 have hvc := allA_ok h hargs hpre
 unfold fnVCJ at hvc
 split at hvc
 ·rename_i c hc
  split at hvc
  ·rename_i vs hvs
   split at hvc
   ·rename_i hle
    simp only [bleN_iff] at hle
    have hrel : RvSL C n0 vs args := argsSV_ok hb0 hvs hargs
    obtain ⟨t', t1, t2⟩ := enter_ok (C := C) (n := n0) _ _ 0 .e [] hrel (fun t s h => by simp [look] at h) (fun j s h => by simp [look] at h)
    obtain ⟨e, S', C', σ', k1, k2, k3, k4⟩ := vcJ_ok hE (ciN_ok hE hinl n) js (rd := none) (lo := 0) c _ _ hvc C ⟨fn.ntmps, bar, t', hp, nx, []⟩ ⟨rfl, fun j s hl => .inr (t2 j s hl), hM, .nil, fun d hd => by cases hd⟩ (Nat.zero_le _) (fun l hl => by cases hl)
    have none0 : ∀ id, ¬ OwnId C [] id := fun id h => by obtain ⟨_, _, hl, _⟩ := h; simp [look] at hl
    have fin : retRP E fn sg (res ds) σ' → (e = .normal ∨ e = .ret) → ∃ (vs : List V) (h' : T O) (nx' : Nat) (g' : Nat → Option O), Evt (fun n => ∀ k, callF E.E (cx E.E n) bar hp nx f args k = k (CX.one vs) h' nx') ∧ nx ≤ nx' ∧ (∀ id, id < nx → h'.get id = hp.get id) ∧ (∀ id o, C.g id = some o → g' id = some o) ∧
      (∀ id o, g' id = some o → (id < nx' ∧ h'.get id = some o) ∧ (C.g id = some o ∨ nx ≤ id)) ∧ ResFz E.E.ro g' nx' (res ds) sg.results 0 vs := by
     intro hr he
     unfold retRP at hr
     split at hr
     ·rename_i objs ho
      split at hr
      ·rename_i rs hrs
       unfold retD at hr
       split at hr
       ·rename_i ds' hds
        obtain ⟨h', t1', t2', t3'⟩ := take_ok S'.df σ'.df σ'.objs objs S'.h ho k2.m k2.df k2.dflt
        obtain ⟨x, x1, x2⟩ := resAll_ok (σ := σ'.mem objs σ'.next) hE t2' k2.regs fn.results.toList hrs
        obtain ⟨C2, m2, e2⟩ := t2'.frzL rs
        have hA := argsD_ok (σ := σ'.mem (frzL objs rs) σ'.next) m2 (fun _ _ h => h) (fun e => by cases e) hds (RvSL.ag e2.ag (Nat.le_refl _) _ _ x1)
        have hext : MExt C [] 0 hp.get nx C2 (frzL objs rs) σ'.next h'.get S'.nx := yext (k3.m.took t3' (fun i hi => (k3.df i hi).resolve_left (by intro h; cases h))) (MExt.refl _ _ _ _ _) ((MExt.refl _ _ _ _ _).less (Nat.zero_le _)) e2
        have hbar' : S'.bar = bar := k3.bar
        refine ⟨x, h', S'.nx, C2.g, k1.mono fun n hn k => ?_, hext.nxle, fun id hid => hext.keep id hid (none0 id), fun id o hgo => hext.ag.g id o hgo, fun id o hgo => ⟨m2.fz id o hgo, ?_⟩, eqRes_ok (allP_ok _ hr) hA⟩
        ·have hlen : Nat.ble (CX.len args) fn.ntmps = true := bleT (by rw [len_eq, hrel.length]; exact hle)
         have hn' : cx E.E n none c ⟨fn.ntmps, bar, t', hp, nx, []⟩ = some (e, S') := hn
         have hrun : outV (takeDf bar S'.df S'.h fun h => resultsX E.E S'.regs h fn.results.toList fun l => retV (CX.one l) h S'.nx) k = k (CX.one x) h' S'.nx := by
          rw [← hbar', t1', x2]; rfl
         simp only [callF, hf.1, hf.2, hc, hlen, t1, hn']
         rcases he with rfl | rfl <;> exact hrun
        ·rcases hext.g id o hgo with h | h | h
         ·exact .inl h
         ·exact absurd h (none0 id)
         ·exact .inr h
       ·exact hr.out.elim
      ·exact hr.out.elim
     ·exact hr.out.elim
    cases e with
    | normal => exact fin k4 (.inl rfl)
    | ret => exact fin k4 (.inr rfl)
    | exit i => exact (StuckR.out k4).elim
   ·exact hvc.elim
  ·exact hvc.elim
 ·exact hvc.elim
theorem PureC.of_vcJ {E : Env} (hE : EnvOk E) (js : List Nat) {inl : Nat → Option Func} (hinl : ∀ f fn, inl f = some fn → E.E.fn f = some fn ∧ E.E.ext f = none) (n : Nat) {f : Nat} {fn : Func} {sg : Sig} {pre : List (List D) → Prop} {res : List (List D) → Nat → Nat → D} (hf : E.E.fn f = some fn ∧ E.E.ext f = none)
  (h : allA sg.params fun ds => pre ds → fnVCJ js 1 1 E inl n fn sg (res ds) ds) : PureC E.E f sg pre res := by
 intro ds hpre g bar nx hp args hg hbar hargs
 refine of_vcGJ hE js hinl n hf 1 1 (Nat.le_refl _) h hpre (bar := bar) ⟨fun _ => 0, fun _ => .nils, g, fun b => if b = 0 then 0 else nx⟩ rfl ?_ hargs
 exact ⟨fun _ _ h => by simp [look] at h, fun _ _ h => by simp [look] at h, fun _ _ h => by simp [look] at h, fun _ _ _ _ h => by simp [look] at h, hg, fun b _ => by show (if b = 0 then 0 else nx) ≤ nx; split <;> omega, rfl, hbar, rfl⟩
theorem PureC0.of_vcJ {E : Env} (hE : EnvOk E) (js : List Nat) {inl : Nat → Option Func} (hinl : ∀ f fn, inl f = some fn → E.E.fn f = some fn ∧ E.E.ext f = none) (n : Nat) {f : Nat} {fn : Func} {sg : Sig} {pre : List (List D) → Prop} {res : List (List D) → Nat → Nat → D} (hf : E.E.fn f = some fn ∧ E.E.ext f = none)
  (h : allA sg.params fun ds => pre ds → fnVCJ js 0 0 E inl n fn sg (res ds) ds) : PureC0 E.E f sg pre res := by
 intro ds hpre args hargs
 obtain ⟨vs, h', nx', g', c1, _, _, _, _, c6⟩ := of_vcGJ hE js hinl n hf 0 0 (Nat.le_refl _) h hpre (bar := 0) (hp := .e) (nx := 0) ⟨fun _ => 0, fun _ => .nils, fun _ => none, fun _ => 0⟩ rfl
  ⟨fun _ _ h => by simp [look] at h, fun _ _ h => by simp [look] at h, fun _ _ h => by simp [look] at h, fun _ _ _ _ h => by simp [look] at h, fun _ _ h => (by cases h), fun _ _ => Nat.le_refl _, rfl, Nat.le_refl _, rfl⟩ hargs
 exact ⟨vs, h', nx', g', c1, c6⟩
end HX

namespace HX
open Go Go.Proofs CX
set_option maxHeartbeats 4000000 in
set_option maxRecDepth 100000 in
set_option cbv.maxSteps 3000000 in
theorem walk63 {ro A pre fn} (hE : EnvOk ⟨A, (cxE ro), ksF, sigL [(67, ⟨[(false, [.sl [.int .u8]])], [(true, [.int .u8, .int .u8])], false⟩), (92, ⟨[(true, [.int .i64, .int .i64])], [(false, [.int .i64])], false⟩)], pre, fn⟩) {P : List (List D) → Prop} {res : List (List D) → Nat → Nat → D}
  (hv : ∀ (a0 : Rows), ShR [.int .i64, .int .i64] a0 → P [[.l a0]] → V63 pre fn a0 (res [[.l a0]])) :
  PureC (cxE ro) 63 ⟨[(false, [.sl [.int .i64, .int .i64]])], [(false, [.sl [.int .u8]])], false⟩ P res := by
 have h := hE.A
 simp only [] at h
 have hinl : ∀ f fn, inlL [(69, Try.f69), (87, Try.f87), (88, Try.f88), (93, Try.f93), (101, Try.f101)] f = some fn → (cxE ro).fn f = some fn ∧ (cxE ro).ext f = none := Inls.ok (by repeat (first | exact .nil | refine .cons rfl rfl ?_))
 refine PureC.of_vcJ hE [10, 12, 13, 14] hinl 6 (f := 63) (fn := Try.f63) ⟨rfl, rfl⟩ ?_
 intro a0 ha0 hP
 obtain ⟨R,hR⟩ : ∃ R,res [[.l a0]] = R := ⟨_,rfl⟩
 rw [hR]
 have hV := hv a0 ha0 hP
 rw [hR] at hV
 clear hR hP hv
 cbv
 repeat' first|(refine Br.mk (fun _=>?_) (fun _=>?_)<;>cbv)|(refine NilB.mk (fun _=>?_) ?_<;>cbv)|refine And.intro ?_ ?_|exact True.intro
 ·subst h;exact hV.g0
 ·subst h;exact hV.g1
 ·refine Leaf.gen fun σz hσz => ?_
  obtain ⟨I0,m0,i0,c0⟩ : V63l0 pre fn a0 R := by subst h;exact hV.l0
  refine loopBJ hE [10,12,13,14] hinl 6 [] [] [(2,[53]),(4,[0]),(7,[0,0]),(8,[0,0]),(9,[0,0])] (fun x : Int × Rows × Int × Int × Int × Int × Int × Int × Int => [.i x.1,D.l [[.l x.2.1]],D.l [[.i x.2.2.1]],D.l [[.i x.2.2.2.1,.i x.2.2.2.2.1]],D.l [[.i x.2.2.2.2.2.1,.i x.2.2.2.2.2.2.1]],D.l [[.i x.2.2.2.2.2.2.2.1,.i x.2.2.2.2.2.2.2.2]]]) (fun x => I0 x.1 x.2.1 x.2.2.1 x.2.2.2.1 x.2.2.2.2.1 x.2.2.2.2.2.1 x.2.2.2.2.2.2.1 x.2.2.2.2.2.2.2.1 x.2.2.2.2.2.2.2.2) (fun x => m0 x.1 x.2.1 x.2.2.1 x.2.2.2.1 x.2.2.2.2.1 x.2.2.2.2.2.1 x.2.2.2.2.2.2.1 x.2.2.2.2.2.2.2.1 x.2.2.2.2.2.2.2.2) (0,[[D.i 71],[D.i 83],[D.i (A.wrap IntKind.u8 (A.shr IntKind.i64 (A.nat (A.len a0)) 16))],[D.i (A.wrap IntKind.u8 (A.shr IntKind.i64 (A.nat (A.len a0)) 8))],[D.i (A.wrap IntKind.u8 (A.nat (A.len a0)))]],0,4,1,4,1,-1,0) (by subst h;exact i0) ?_ ?_ <;> subst hσz
  ·clear hE hinl hV; cbv; (try repeat' first|rfl|assumption|constructor)
  ·intro ⟨b0, b1, b2, b3, b4, b5, b6, b7, b8⟩ hI0 K0 hK0
   have h0 := c0 _ _ _ _ _ _ _ _ _ hI0
   cbv
   repeat' first|(refine Br.mk (fun _=>?_) (fun _=>?_)<;>cbv)|(refine NilB.mk (fun _=>?_) ?_<;>cbv)|refine And.intro ?_ ?_|exact True.intro
   ·next a=>subst h;exact h0.g3 (dt a)
   ·next a=>subst h;exact h0.g4 (dt a)
   ·next a=>subst h;exact h0.g5 (dt a)
   ·rename_i p6a
    refine Leaf.gen fun σz hσz => ?_
    obtain ⟨I1,r1,c1⟩ : V63j1 pre fn a0 b0 b1 b2 b3 b4 b5 b6 b7 b8 I0 m0 := by subst h;exact h0.l1 (dt p6a)
    refine joinB hE hinl 6 [41] [] [] [] (fun x : Int => [.i x]) (fun x => I1 x) ?_ ?_ <;> subst hσz
    ·intro K1 hK1
     cbv
     repeat' first|(refine Br.mk (fun _=>?_) (fun _=>?_)<;>cbv)|(refine NilB.mk (fun _=>?_) ?_<;>cbv)|refine And.intro ?_ ?_|exact True.intro
     ·next a=>subst h;exact r1.g7 (dt a)
     ·rename_i p8a
      refine hK1 (A.sub (A.di (A.get a0 (A.toNat b0) 0)) b7) _ ?_ ?_
      ·subst h;exact r1.n8 (dt p8a)
      ·clear hE hinl hV hK1; cbv; (try repeat' first|rfl|assumption|constructor)
     ·rename_i p9a
      refine hK1 (A.di (A.get a0 (A.toNat b0) 0)) _ ?_ ?_
      ·subst h;exact r1.n9 (df p9a)
      ·clear hE hinl hV hK1; cbv; (try repeat' first|rfl|assumption|constructor)
    ·intro d0 hI1
     have h1 := c1 _ hI1
     cbv
     repeat' first|(refine Br.mk (fun _=>?_) (fun _=>?_)<;>cbv)|(refine NilB.mk (fun _=>?_) ?_<;>cbv)|refine And.intro ?_ ?_|exact True.intro
     ·refine Leaf.gen fun σz hσz => ?_
      obtain ⟨I2,r2,c2⟩ : V63j2 pre fn a0 b0 b1 b2 b3 b4 b5 b6 b7 b8 d0 I0 m0 := by subst h;exact h1.l2
      refine joinB hE hinl 6 [50] [] [] [] (fun x : Int => [.i x]) (fun x => I2 x) ?_ ?_ <;> subst hσz
      ·intro K2 hK2
       cbv
       repeat' first|(refine Br.mk (fun _=>?_) (fun _=>?_)<;>cbv)|(refine NilB.mk (fun _=>?_) ?_<;>cbv)|refine And.intro ?_ ?_|exact True.intro
       ·next a=>subst h;exact r2.g11 (dt a)
       ·next a=>subst h;exact r2.g12 (dt a)
       ·rename_i p13a
        refine hK2 (A.sub (A.di (A.get a0 (A.toNat b0) 1)) (A.add b8 1)) _ ?_ ?_
        ·subst h;exact r2.n13 (dt p13a)
        ·clear hE hinl hV hK2; cbv; (try repeat' first|rfl|assumption|constructor)
       ·rename_i p14a
        refine hK2 (A.di (A.get a0 (A.toNat b0) 1)) _ ?_ ?_
        ·subst h;exact r2.n14 (df p14a)
        ·clear hE hinl hV hK2; cbv; (try repeat' first|rfl|assumption|constructor)
      ·intro e0 hI2
       have h2 := c2 _ hI2
       cbv
       repeat' first|(refine Br.mk (fun _=>?_) (fun _=>?_)<;>cbv)|(refine NilB.mk (fun _=>?_) ?_<;>cbv)|refine And.intro ?_ ?_|exact True.intro
       ·refine Leaf.gen fun σz hσz => ?_
        obtain ⟨I3,r3,c3⟩ : V63j3 pre fn a0 b0 b1 b2 b3 b4 b5 b6 b7 b8 d0 e0 I0 m0 := by subst h;exact h2.l3
        refine joinB hE hinl 6 [] [] [] [(2,[0]),(4,[0]),(7,[0,0])] (fun x : Rows × Int × Int × Int => [D.l [[.l x.1]],D.l [[.i x.2.1]],D.l [[.i x.2.2.1,.i x.2.2.2]]]) (fun x => I3 x.1 x.2.1 x.2.2.1 x.2.2.2) ?_ ?_ <;> subst hσz
        ·intro K3 hK3
         cbv
         repeat' first|(refine Br.mk (fun _=>?_) (fun _=>?_)<;>cbv)|(refine NilB.mk (fun _=>?_) ?_<;>cbv)|refine And.intro ?_ ?_|exact True.intro
         ·subst h;exact r3.g16
         ·subst h;exact r3.g17
         ·next a=>subst h;exact r3.g18 (dt a)
         ·next a=>subst h;exact r3.g19 (dt a)
         ·next a=>subst h;exact r3.g20 (dt a)
         ·next a=>subst h;exact r3.g18 (dt a)
         ·next a=>subst h;exact r3.g22 (dt a)
         ·rename_i p23a
          refine Leaf.gen fun σz hσz => ?_
          obtain ⟨I4,m4,i4,c4⟩ : V63l4 fn b1 b2 b3 b4 d0 I3 := by subst h;exact r3.l4 (dt p23a)
          refine loopBJ hE [10,12,13,14] hinl 6 [] [] [(2,[0]),(4,[0])] (fun x : Int × Rows × Int => [.i x.1,D.l [[.l x.2.1]],D.l [[.i x.2.2]]]) (fun x => I4 x.1 x.2.1 x.2.2) (fun x => m4 x.1 x.2.1 x.2.2) (A.sub (A.add (A.shr IntKind.i64 d0 (A.di (fn 92 [[D.i b3,D.i b4]] 0 0))) 1) 1,b1,b2) (by subst h;exact i4) ?_ ?_ <;> subst hσz
          ·clear hE hinl hV; cbv; (try repeat' first|rfl|assumption|constructor)
          ·intro ⟨j0, j1, j2⟩ hI4 K4 hK4
           have h4 := c4 _ _ _ hI4
           cbv
           repeat' first|(refine Br.mk (fun _=>?_) (fun _=>?_)<;>cbv)|(refine NilB.mk (fun _=>?_) ?_<;>cbv)|refine And.intro ?_ ?_|exact True.intro
           ·next a b=>subst h;exact h4.g24 (dt a) (dt b)
           ·next a b=>subst h;exact h4.g25 (dt a) (dt b)
           ·next a b=>subst h;exact h4.g26 (dt a) (dt b)
           ·next a b=>subst h;exact h4.g27 (dt a) (dt b)
           ·next a b=>subst h;exact h4.g28 (dt a) (dt b)
           ·next a b=>subst h;exact h4.g29 (dt a) (dt b)
           ·next a b=>subst h;exact h4.g29 (dt a) (dt b)
           ·next a b=>subst h;exact h4.g31 (dt a) (dt b)
           ·next a b=>subst h;exact h4.g32 (dt a) (dt b)
           ·next a b=>subst h;exact h4.g27 (dt a) (dt b)
           ·next a b=>subst h;exact h4.g28 (dt a) (dt b)
           ·next a b=>subst h;exact h4.g29 (dt a) (dt b)
           ·next a b=>subst h;exact h4.g36 (dt a) (dt b)
           ·rename_i p37a p37b
            refine hK4 (A.sub j0 1,A.set (A.app j1 [[D.i 0]]) (A.toNat (A.sub (A.nat (A.len (A.app j1 [[D.i 0]]))) 1)) [D.i (A.bit .or .u8 (A.di (A.get (A.app j1 [[D.i 0]]) (A.toNat (A.sub (A.nat (A.len (A.app j1 [[D.i 0]]))) 1)) 0)) (A.shl .u8 (A.wrap .u8 (A.bit .and .i64 (A.shr .i64 (A.sub (A.shl .i64 1 (A.add (A.shr .i64 d0 (A.di (fn 92 [[D.i b3,D.i b4]] 0 0))) 1)) 2) j0) 1)) (A.sub 8 1)))],A.sub 8 1) _ ?_ ?_ ?_
            ·subst h;exact (h4.n37 (dt p37a) (dt p37b)).1
            ·subst h;exact (h4.n37 (dt p37a) (dt p37b)).2
            ·clear hE hinl hV hK4; cbv; (try repeat' first|rfl|assumption|constructor)
           ·next a b=>subst h;exact h4.g38 (dt a) (df b)
           ·next a b=>subst h;exact h4.g39 (dt a) (df b)
           ·next a b=>subst h;exact h4.g40 (dt a) (df b)
           ·next a b=>subst h;exact h4.g41 (dt a) (df b)
           ·next a b=>subst h;exact h4.g42 (dt a) (df b)
           ·next a b=>subst h;exact h4.g42 (dt a) (df b)
           ·next a b=>subst h;exact h4.g44 (dt a) (df b)
           ·next a b=>subst h;exact h4.g45 (dt a) (df b)
           ·next a b=>subst h;exact h4.g40 (dt a) (df b)
           ·next a b=>subst h;exact h4.g41 (dt a) (df b)
           ·next a b=>subst h;exact h4.g42 (dt a) (df b)
           ·next a b=>subst h;exact h4.g49 (dt a) (df b)
           ·rename_i p50a p50b
            refine hK4 (A.sub j0 1,A.set j1 (A.toNat (A.sub (A.nat (A.len j1)) 1)) [D.i (A.bit .or .u8 (A.di (A.get j1 (A.toNat (A.sub (A.nat (A.len j1)) 1)) 0)) (A.shl .u8 (A.wrap .u8 (A.bit .and .i64 (A.shr .i64 (A.sub (A.shl .i64 1 (A.add (A.shr .i64 d0 (A.di (fn 92 [[D.i b3,D.i b4]] 0 0))) 1)) 2) j0) 1)) (A.sub j2 1)))],A.sub j2 1) _ ?_ ?_ ?_
            ·subst h;exact (h4.n50 (dt p50a) (df p50b)).1
            ·subst h;exact (h4.n50 (dt p50a) (df p50b)).2
            ·clear hE hinl hV hK4; cbv; (try repeat' first|rfl|assumption|constructor)
           ·next a=>subst h;exact h4.g51 (df a)
           ·rename_i p52a
            refine Leaf.gen fun σz hσz => ?_
            obtain ⟨I5,m5,i5,c5⟩ : V63l5 fn b3 b4 d0 j1 j2 I3 := by subst h;exact h4.l5 (df p52a)
            refine loopBJ hE [10,12,13,14] hinl 6 [] [] [(2,[0]),(4,[0])] (fun x : Int × Rows × Int => [.i x.1,D.l [[.l x.2.1]],D.l [[.i x.2.2]]]) (fun x => I5 x.1 x.2.1 x.2.2) (fun x => m5 x.1 x.2.1 x.2.2) (A.sub (A.di (fn 92 [[D.i b3,D.i b4]] 0 0)) 1,j1,j2) (by subst h;exact i5) ?_ ?_ <;> subst hσz
            ·clear hE hinl hV; cbv; (try repeat' first|rfl|assumption|constructor)
            ·intro ⟨k0, k1, k2⟩ hI5 K5 hK5
             have h5 := c5 _ _ _ hI5
             cbv
             repeat' first|(refine Br.mk (fun _=>?_) (fun _=>?_)<;>cbv)|(refine NilB.mk (fun _=>?_) ?_<;>cbv)|refine And.intro ?_ ?_|exact True.intro
             ·next a b=>subst h;exact h5.g53 (dt a) (dt b)
             ·next a b=>subst h;exact h5.g54 (dt a) (dt b)
             ·next a b=>subst h;exact h5.g55 (dt a) (dt b)
             ·next a b=>subst h;exact h5.g56 (dt a) (dt b)
             ·next a b=>subst h;exact h5.g57 (dt a) (dt b)
             ·next a b=>subst h;exact h5.g58 (dt a) (dt b)
             ·next a b=>subst h;exact h5.g58 (dt a) (dt b)
             ·next a b=>subst h;exact h5.g60 (dt a) (dt b)
             ·next a b=>subst h;exact h5.g61 (dt a) (dt b)
             ·next a b=>subst h;exact h5.g56 (dt a) (dt b)
             ·next a b=>subst h;exact h5.g57 (dt a) (dt b)
             ·next a b=>subst h;exact h5.g58 (dt a) (dt b)
             ·next a b=>subst h;exact h5.g65 (dt a) (dt b)
             ·rename_i p66a p66b
              refine hK5 (A.sub k0 1,A.set (A.app k1 [[D.i 0]]) (A.toNat (A.sub (A.nat (A.len (A.app k1 [[D.i 0]]))) 1)) [D.i (A.bit .or .u8 (A.di (A.get (A.app k1 [[D.i 0]]) (A.toNat (A.sub (A.nat (A.len (A.app k1 [[D.i 0]]))) 1)) 0)) (A.shl .u8 (A.wrap .u8 (A.bit .and .i64 (A.shr .i64 d0 k0) 1)) (A.sub 8 1)))],A.sub 8 1) _ ?_ ?_ ?_
              ·subst h;exact (h5.n66 (dt p66a) (dt p66b)).1
              ·subst h;exact (h5.n66 (dt p66a) (dt p66b)).2
              ·clear hE hinl hV hK5; cbv; (try repeat' first|rfl|assumption|constructor)
             ·next a b=>subst h;exact h5.g67 (dt a) (df b)
             ·next a b=>subst h;exact h5.g68 (dt a) (df b)
             ·next a b=>subst h;exact h5.g69 (dt a) (df b)
             ·next a b=>subst h;exact h5.g70 (dt a) (df b)
             ·next a b=>subst h;exact h5.g71 (dt a) (df b)
             ·next a b=>subst h;exact h5.g71 (dt a) (df b)
             ·next a b=>subst h;exact h5.g73 (dt a) (df b)
             ·next a b=>subst h;exact h5.g74 (dt a) (df b)
             ·next a b=>subst h;exact h5.g69 (dt a) (df b)
             ·next a b=>subst h;exact h5.g70 (dt a) (df b)
             ·next a b=>subst h;exact h5.g71 (dt a) (df b)
             ·next a b=>subst h;exact h5.g78 (dt a) (df b)
             ·rename_i p79a p79b
              refine hK5 (A.sub k0 1,A.set k1 (A.toNat (A.sub (A.nat (A.len k1)) 1)) [D.i (A.bit .or .u8 (A.di (A.get k1 (A.toNat (A.sub (A.nat (A.len k1)) 1)) 0)) (A.shl .u8 (A.wrap .u8 (A.bit .and .i64 (A.shr .i64 d0 k0) 1)) (A.sub k2 1)))],A.sub k2 1) _ ?_ ?_ ?_
              ·subst h;exact (h5.n79 (dt p79a) (df p79b)).1
              ·subst h;exact (h5.n79 (dt p79a) (df p79b)).2
              ·clear hE hinl hV hK5; cbv; (try repeat' first|rfl|assumption|constructor)
             ·next a=>subst h;exact h5.g80 (df a)
             ·next a=>subst h;exact h5.g81 (df a)
             ·next a b=>subst h;exact h5.g82 (df a) (dt b)
             ·next a b=>subst h;exact h5.g83 (df a) (dt b)
             ·next a b=>subst h;exact h5.g82 (df a) (dt b)
             ·next a b=>subst h;exact h5.g85 (df a) (dt b)
             ·rename_i p86a p86b
              refine hK3 (k1,k2,A.tdiv (A.add b3 d0) 2,A.tdiv (A.add b4 1) 2) _ ?_ ?_
              ·subst h;exact h5.n86 (df p86a) (dt p86b)
              ·clear hE hinl hV hK3; cbv; (try repeat' first|rfl|assumption|constructor)
             ·rename_i p87a p87b
              refine hK3 (k1,k2,A.add b3 d0,A.add b4 1) _ ?_ ?_
              ·subst h;exact h5.n87 (df p87a) (df p87b)
              ·clear hE hinl hV hK3; cbv; (try repeat' first|rfl|assumption|constructor)
         ·next a=>subst h;exact r3.g88 (df a)
         ·rename_i p89a
          refine Leaf.gen fun σz hσz => ?_
          obtain ⟨I6,m6,i6,c6⟩ : V63l6 b1 b2 b3 b4 d0 I3 := by subst h;exact r3.l6 (df p89a)
          refine loopBJ hE [10,12,13,14] hinl 6 [] [] [(2,[0]),(4,[0])] (fun x : Int × Rows × Int => [.i x.1,D.l [[.l x.2.1]],D.l [[.i x.2.2]]]) (fun x => I6 x.1 x.2.1 x.2.2) (fun x => m6 x.1 x.2.1 x.2.2) (A.sub 24 1,b1,b2) (by subst h;exact i6) ?_ ?_ <;> subst hσz
          ·clear hE hinl hV; cbv; (try repeat' first|rfl|assumption|constructor)
          ·intro ⟨o0, o1, o2⟩ hI6 K6 hK6
           have h6 := c6 _ _ _ hI6
           cbv
           repeat' first|(refine Br.mk (fun _=>?_) (fun _=>?_)<;>cbv)|(refine NilB.mk (fun _=>?_) ?_<;>cbv)|refine And.intro ?_ ?_|exact True.intro
           ·next a b=>subst h;exact h6.g90 (dt a) (dt b)
           ·next a b=>subst h;exact h6.g91 (dt a) (dt b)
           ·next a b=>subst h;exact h6.g92 (dt a) (dt b)
           ·next a b=>subst h;exact h6.g93 (dt a) (dt b)
           ·next a b=>subst h;exact h6.g94 (dt a) (dt b)
           ·next a b=>subst h;exact h6.g95 (dt a) (dt b)
           ·next a b=>subst h;exact h6.g95 (dt a) (dt b)
           ·next a b=>subst h;exact h6.g97 (dt a) (dt b)
           ·next a b=>subst h;exact h6.g98 (dt a) (dt b)
           ·next a b=>subst h;exact h6.g93 (dt a) (dt b)
           ·next a b=>subst h;exact h6.g94 (dt a) (dt b)
           ·next a b=>subst h;exact h6.g95 (dt a) (dt b)
           ·next a b=>subst h;exact h6.g102 (dt a) (dt b)
           ·rename_i p103a p103b
            refine hK6 (A.sub o0 1,A.set (A.app o1 [[D.i 0]]) (A.toNat (A.sub (A.nat (A.len (A.app o1 [[D.i 0]]))) 1)) [D.i (A.bit .or .u8 (A.di (A.get (A.app o1 [[D.i 0]]) (A.toNat (A.sub (A.nat (A.len (A.app o1 [[D.i 0]]))) 1)) 0)) (A.shl .u8 (A.wrap .u8 (A.bit .and .i64 (A.shr .i64 16777215 o0) 1)) (A.sub 8 1)))],A.sub 8 1) _ ?_ ?_ ?_
            ·subst h;exact (h6.n103 (dt p103a) (dt p103b)).1
            ·subst h;exact (h6.n103 (dt p103a) (dt p103b)).2
            ·clear hE hinl hV hK6; cbv; (try repeat' first|rfl|assumption|constructor)
           ·next a b=>subst h;exact h6.g104 (dt a) (df b)
           ·next a b=>subst h;exact h6.g105 (dt a) (df b)
           ·next a b=>subst h;exact h6.g106 (dt a) (df b)
           ·next a b=>subst h;exact h6.g107 (dt a) (df b)
           ·next a b=>subst h;exact h6.g108 (dt a) (df b)
           ·next a b=>subst h;exact h6.g108 (dt a) (df b)
           ·next a b=>subst h;exact h6.g110 (dt a) (df b)
           ·next a b=>subst h;exact h6.g111 (dt a) (df b)
           ·next a b=>subst h;exact h6.g106 (dt a) (df b)
           ·next a b=>subst h;exact h6.g107 (dt a) (df b)
           ·next a b=>subst h;exact h6.g108 (dt a) (df b)
           ·next a b=>subst h;exact h6.g115 (dt a) (df b)
           ·rename_i p116a p116b
            refine hK6 (A.sub o0 1,A.set o1 (A.toNat (A.sub (A.nat (A.len o1)) 1)) [D.i (A.bit .or .u8 (A.di (A.get o1 (A.toNat (A.sub (A.nat (A.len o1)) 1)) 0)) (A.shl .u8 (A.wrap .u8 (A.bit .and .i64 (A.shr .i64 16777215 o0) 1)) (A.sub o2 1)))],A.sub o2 1) _ ?_ ?_ ?_
            ·subst h;exact (h6.n116 (dt p116a) (df p116b)).1
            ·subst h;exact (h6.n116 (dt p116a) (df p116b)).2
            ·clear hE hinl hV hK6; cbv; (try repeat' first|rfl|assumption|constructor)
           ·next a=>subst h;exact h6.g117 (df a)
           ·rename_i p118a
            refine Leaf.gen fun σz hσz => ?_
            obtain ⟨I7,m7,i7,c7⟩ : V63l7 b3 b4 d0 o1 o2 I3 := by subst h;exact h6.l7 (df p118a)
            refine loopBJ hE [10,12,13,14] hinl 6 [] [] [(2,[0]),(4,[0])] (fun x : Int × Rows × Int => [.i x.1,D.l [[.l x.2.1]],D.l [[.i x.2.2]]]) (fun x => I7 x.1 x.2.1 x.2.2) (fun x => m7 x.1 x.2.1 x.2.2) (A.sub 31 1,o1,o2) (by subst h;exact i7) ?_ ?_ <;> subst hσz
            ·clear hE hinl hV; cbv; (try repeat' first|rfl|assumption|constructor)
            ·intro ⟨q0, q1, q2⟩ hI7 K7 hK7
             have h7 := c7 _ _ _ hI7
             cbv
             repeat' first|(refine Br.mk (fun _=>?_) (fun _=>?_)<;>cbv)|(refine NilB.mk (fun _=>?_) ?_<;>cbv)|refine And.intro ?_ ?_|exact True.intro
             ·next a b=>subst h;exact h7.g53 (dt a) (dt b)
             ·next a b=>subst h;exact h7.g54 (dt a) (dt b)
             ·next a b=>subst h;exact h7.g55 (dt a) (dt b)
             ·next a b=>subst h;exact h7.g56 (dt a) (dt b)
             ·next a b=>subst h;exact h7.g57 (dt a) (dt b)
             ·next a b=>subst h;exact h7.g58 (dt a) (dt b)
             ·next a b=>subst h;exact h7.g58 (dt a) (dt b)
             ·next a b=>subst h;exact h7.g60 (dt a) (dt b)
             ·next a b=>subst h;exact h7.g61 (dt a) (dt b)
             ·next a b=>subst h;exact h7.g56 (dt a) (dt b)
             ·next a b=>subst h;exact h7.g57 (dt a) (dt b)
             ·next a b=>subst h;exact h7.g58 (dt a) (dt b)
             ·next a b=>subst h;exact h7.g65 (dt a) (dt b)
             ·rename_i p132a p132b
              refine hK7 (A.sub q0 1,A.set (A.app q1 [[D.i 0]]) (A.toNat (A.sub (A.nat (A.len (A.app q1 [[D.i 0]]))) 1)) [D.i (A.bit .or .u8 (A.di (A.get (A.app q1 [[D.i 0]]) (A.toNat (A.sub (A.nat (A.len (A.app q1 [[D.i 0]]))) 1)) 0)) (A.shl .u8 (A.wrap .u8 (A.bit .and .i64 (A.shr .i64 d0 q0) 1)) (A.sub 8 1)))],A.sub 8 1) _ ?_ ?_ ?_
              ·subst h;exact (h7.n66 (dt p132a) (dt p132b)).1
              ·subst h;exact (h7.n66 (dt p132a) (dt p132b)).2
              ·clear hE hinl hV hK7; cbv; (try repeat' first|rfl|assumption|constructor)
             ·next a b=>subst h;exact h7.g67 (dt a) (df b)
             ·next a b=>subst h;exact h7.g68 (dt a) (df b)
             ·next a b=>subst h;exact h7.g69 (dt a) (df b)
             ·next a b=>subst h;exact h7.g70 (dt a) (df b)
             ·next a b=>subst h;exact h7.g71 (dt a) (df b)
             ·next a b=>subst h;exact h7.g71 (dt a) (df b)
             ·next a b=>subst h;exact h7.g73 (dt a) (df b)
             ·next a b=>subst h;exact h7.g74 (dt a) (df b)
             ·next a b=>subst h;exact h7.g69 (dt a) (df b)
             ·next a b=>subst h;exact h7.g70 (dt a) (df b)
             ·next a b=>subst h;exact h7.g71 (dt a) (df b)
             ·next a b=>subst h;exact h7.g78 (dt a) (df b)
             ·rename_i p145a p145b
              refine hK7 (A.sub q0 1,A.set q1 (A.toNat (A.sub (A.nat (A.len q1)) 1)) [D.i (A.bit .or .u8 (A.di (A.get q1 (A.toNat (A.sub (A.nat (A.len q1)) 1)) 0)) (A.shl .u8 (A.wrap .u8 (A.bit .and .i64 (A.shr .i64 d0 q0) 1)) (A.sub q2 1)))],A.sub q2 1) _ ?_ ?_ ?_
              ·subst h;exact (h7.n79 (dt p145a) (df p145b)).1
              ·subst h;exact (h7.n79 (dt p145a) (df p145b)).2
              ·clear hE hinl hV hK7; cbv; (try repeat' first|rfl|assumption|constructor)
             ·next a=>subst h;exact h7.g80 (df a)
             ·next a=>subst h;exact h7.g81 (df a)
             ·next a b=>subst h;exact h7.g82 (df a) (dt b)
             ·next a b=>subst h;exact h7.g83 (df a) (dt b)
             ·next a b=>subst h;exact h7.g82 (df a) (dt b)
             ·next a b=>subst h;exact h7.g85 (df a) (dt b)
             ·rename_i p152a p152b
              refine hK3 (q1,q2,A.tdiv (A.add b3 d0) 2,A.tdiv (A.add b4 1) 2) _ ?_ ?_
              ·subst h;exact h7.n86 (df p152a) (dt p152b)
              ·clear hE hinl hV hK3; cbv; (try repeat' first|rfl|assumption|constructor)
             ·rename_i p153a p153b
              refine hK3 (q1,q2,A.add b3 d0,A.add b4 1) _ ?_ ?_
              ·subst h;exact h7.n87 (df p153a) (df p153b)
              ·clear hE hinl hV hK3; cbv; (try repeat' first|rfl|assumption|constructor)
        ·intro ⟨f0, f1, f2, f3⟩ hI3
         have h3 := c3 _ _ _ _ hI3
         cbv
         repeat' first|(refine Br.mk (fun _=>?_) (fun _=>?_)<;>cbv)|(refine NilB.mk (fun _=>?_) ?_<;>cbv)|refine And.intro ?_ ?_|exact True.intro
         ·refine Leaf.gen fun σz hσz => ?_
          obtain ⟨I8,r8,c8⟩ : V63j8 pre fn a0 b0 b1 b2 b3 b4 b5 b6 b7 b8 e0 f0 f1 f2 f3 I0 m0 := by subst h;exact h3.l8
          refine joinB hE hinl 6 [] [] [] [(2,[0]),(4,[0]),(8,[0,0])] (fun x : Rows × Int × Int × Int => [D.l [[.l x.1]],D.l [[.i x.2.1]],D.l [[.i x.2.2.1,.i x.2.2.2]]]) (fun x => I8 x.1 x.2.1 x.2.2.1 x.2.2.2) ?_ ?_ <;> subst hσz
          ·intro K8 hK8
           cbv
           repeat' first|(refine Br.mk (fun _=>?_) (fun _=>?_)<;>cbv)|(refine NilB.mk (fun _=>?_) ?_<;>cbv)|refine And.intro ?_ ?_|exact True.intro
           ·subst h;exact r8.g16
           ·subst h;exact r8.g17
           ·next a=>subst h;exact r8.g18 (dt a)
           ·next a=>subst h;exact r8.g19 (dt a)
           ·next a=>subst h;exact r8.g20 (dt a)
           ·next a=>subst h;exact r8.g18 (dt a)
           ·next a=>subst h;exact r8.g22 (dt a)
           ·rename_i p162a
            refine Leaf.gen fun σz hσz => ?_
            obtain ⟨I9,m9,i9,c9⟩ : V63l4 fn f0 f1 b5 b6 e0 I8 := by subst h;exact r8.l4 (dt p162a)
            refine loopBJ hE [10,12,13,14] hinl 6 [] [] [(2,[0]),(4,[0])] (fun x : Int × Rows × Int => [.i x.1,D.l [[.l x.2.1]],D.l [[.i x.2.2]]]) (fun x => I9 x.1 x.2.1 x.2.2) (fun x => m9 x.1 x.2.1 x.2.2) (A.sub (A.add (A.shr IntKind.i64 e0 (A.di (fn 92 [[D.i b5,D.i b6]] 0 0))) 1) 1,f0,f1) (by subst h;exact i9) ?_ ?_ <;> subst hσz
            ·clear hE hinl hV; cbv; (try repeat' first|rfl|assumption|constructor)
            ·intro ⟨s0, s1, s2⟩ hI9 K9 hK9
             have h9 := c9 _ _ _ hI9
             cbv
             repeat' first|(refine Br.mk (fun _=>?_) (fun _=>?_)<;>cbv)|(refine NilB.mk (fun _=>?_) ?_<;>cbv)|refine And.intro ?_ ?_|exact True.intro
             ·next a b=>subst h;exact h9.g24 (dt a) (dt b)
             ·next a b=>subst h;exact h9.g25 (dt a) (dt b)
             ·next a b=>subst h;exact h9.g26 (dt a) (dt b)
             ·next a b=>subst h;exact h9.g27 (dt a) (dt b)
             ·next a b=>subst h;exact h9.g28 (dt a) (dt b)
             ·next a b=>subst h;exact h9.g29 (dt a) (dt b)
             ·next a b=>subst h;exact h9.g29 (dt a) (dt b)
             ·next a b=>subst h;exact h9.g31 (dt a) (dt b)
             ·next a b=>subst h;exact h9.g32 (dt a) (dt b)
             ·next a b=>subst h;exact h9.g27 (dt a) (dt b)
             ·next a b=>subst h;exact h9.g28 (dt a) (dt b)
             ·next a b=>subst h;exact h9.g29 (dt a) (dt b)
             ·next a b=>subst h;exact h9.g36 (dt a) (dt b)
             ·rename_i p176a p176b
              refine hK9 (A.sub s0 1,A.set (A.app s1 [[D.i 0]]) (A.toNat (A.sub (A.nat (A.len (A.app s1 [[D.i 0]]))) 1)) [D.i (A.bit .or .u8 (A.di (A.get (A.app s1 [[D.i 0]]) (A.toNat (A.sub (A.nat (A.len (A.app s1 [[D.i 0]]))) 1)) 0)) (A.shl .u8 (A.wrap .u8 (A.bit .and .i64 (A.shr .i64 (A.sub (A.shl .i64 1 (A.add (A.shr .i64 e0 (A.di (fn 92 [[D.i b5,D.i b6]] 0 0))) 1)) 2) s0) 1)) (A.sub 8 1)))],A.sub 8 1) _ ?_ ?_ ?_
              ·subst h;exact (h9.n37 (dt p176a) (dt p176b)).1
              ·subst h;exact (h9.n37 (dt p176a) (dt p176b)).2
              ·clear hE hinl hV hK9; cbv; (try repeat' first|rfl|assumption|constructor)
             ·next a b=>subst h;exact h9.g38 (dt a) (df b)
             ·next a b=>subst h;exact h9.g39 (dt a) (df b)
             ·next a b=>subst h;exact h9.g40 (dt a) (df b)
             ·next a b=>subst h;exact h9.g41 (dt a) (df b)
             ·next a b=>subst h;exact h9.g42 (dt a) (df b)
             ·next a b=>subst h;exact h9.g42 (dt a) (df b)
             ·next a b=>subst h;exact h9.g44 (dt a) (df b)
             ·next a b=>subst h;exact h9.g45 (dt a) (df b)
             ·next a b=>subst h;exact h9.g40 (dt a) (df b)
             ·next a b=>subst h;exact h9.g41 (dt a) (df b)
             ·next a b=>subst h;exact h9.g42 (dt a) (df b)
             ·next a b=>subst h;exact h9.g49 (dt a) (df b)
             ·rename_i p189a p189b
              refine hK9 (A.sub s0 1,A.set s1 (A.toNat (A.sub (A.nat (A.len s1)) 1)) [D.i (A.bit .or .u8 (A.di (A.get s1 (A.toNat (A.sub (A.nat (A.len s1)) 1)) 0)) (A.shl .u8 (A.wrap .u8 (A.bit .and .i64 (A.shr .i64 (A.sub (A.shl .i64 1 (A.add (A.shr .i64 e0 (A.di (fn 92 [[D.i b5,D.i b6]] 0 0))) 1)) 2) s0) 1)) (A.sub s2 1)))],A.sub s2 1) _ ?_ ?_ ?_
              ·subst h;exact (h9.n50 (dt p189a) (df p189b)).1
              ·subst h;exact (h9.n50 (dt p189a) (df p189b)).2
              ·clear hE hinl hV hK9; cbv; (try repeat' first|rfl|assumption|constructor)
             ·next a=>subst h;exact h9.g51 (df a)
             ·rename_i p191a
              refine Leaf.gen fun σz hσz => ?_
              obtain ⟨I10,m10,i10,c10⟩ : V63l5 fn b5 b6 e0 s1 s2 I8 := by subst h;exact h9.l5 (df p191a)
              refine loopBJ hE [10,12,13,14] hinl 6 [] [] [(2,[0]),(4,[0])] (fun x : Int × Rows × Int => [.i x.1,D.l [[.l x.2.1]],D.l [[.i x.2.2]]]) (fun x => I10 x.1 x.2.1 x.2.2) (fun x => m10 x.1 x.2.1 x.2.2) (A.sub (A.di (fn 92 [[D.i b5,D.i b6]] 0 0)) 1,s1,s2) (by subst h;exact i10) ?_ ?_ <;> subst hσz
              ·clear hE hinl hV; cbv; (try repeat' first|rfl|assumption|constructor)
              ·intro ⟨t0, t1, t2⟩ hI10 K10 hK10
               have h10 := c10 _ _ _ hI10
               cbv
               repeat' first|(refine Br.mk (fun _=>?_) (fun _=>?_)<;>cbv)|(refine NilB.mk (fun _=>?_) ?_<;>cbv)|refine And.intro ?_ ?_|exact True.intro
               ·next a b=>subst h;exact h10.g53 (dt a) (dt b)
               ·next a b=>subst h;exact h10.g54 (dt a) (dt b)
               ·next a b=>subst h;exact h10.g55 (dt a) (dt b)
               ·next a b=>subst h;exact h10.g56 (dt a) (dt b)
               ·next a b=>subst h;exact h10.g57 (dt a) (dt b)
               ·next a b=>subst h;exact h10.g58 (dt a) (dt b)
               ·next a b=>subst h;exact h10.g58 (dt a) (dt b)
               ·next a b=>subst h;exact h10.g60 (dt a) (dt b)
               ·next a b=>subst h;exact h10.g61 (dt a) (dt b)
               ·next a b=>subst h;exact h10.g56 (dt a) (dt b)
               ·next a b=>subst h;exact h10.g57 (dt a) (dt b)
               ·next a b=>subst h;exact h10.g58 (dt a) (dt b)
               ·next a b=>subst h;exact h10.g65 (dt a) (dt b)
               ·rename_i p205a p205b
                refine hK10 (A.sub t0 1,A.set (A.app t1 [[D.i 0]]) (A.toNat (A.sub (A.nat (A.len (A.app t1 [[D.i 0]]))) 1)) [D.i (A.bit .or .u8 (A.di (A.get (A.app t1 [[D.i 0]]) (A.toNat (A.sub (A.nat (A.len (A.app t1 [[D.i 0]]))) 1)) 0)) (A.shl .u8 (A.wrap .u8 (A.bit .and .i64 (A.shr .i64 e0 t0) 1)) (A.sub 8 1)))],A.sub 8 1) _ ?_ ?_ ?_
                ·subst h;exact (h10.n66 (dt p205a) (dt p205b)).1
                ·subst h;exact (h10.n66 (dt p205a) (dt p205b)).2
                ·clear hE hinl hV hK10; cbv; (try repeat' first|rfl|assumption|constructor)
               ·next a b=>subst h;exact h10.g67 (dt a) (df b)
               ·next a b=>subst h;exact h10.g68 (dt a) (df b)
               ·next a b=>subst h;exact h10.g69 (dt a) (df b)
               ·next a b=>subst h;exact h10.g70 (dt a) (df b)
               ·next a b=>subst h;exact h10.g71 (dt a) (df b)
               ·next a b=>subst h;exact h10.g71 (dt a) (df b)
               ·next a b=>subst h;exact h10.g73 (dt a) (df b)
               ·next a b=>subst h;exact h10.g74 (dt a) (df b)
               ·next a b=>subst h;exact h10.g69 (dt a) (df b)
               ·next a b=>subst h;exact h10.g70 (dt a) (df b)
               ·next a b=>subst h;exact h10.g71 (dt a) (df b)
               ·next a b=>subst h;exact h10.g78 (dt a) (df b)
               ·rename_i p218a p218b
                refine hK10 (A.sub t0 1,A.set t1 (A.toNat (A.sub (A.nat (A.len t1)) 1)) [D.i (A.bit .or .u8 (A.di (A.get t1 (A.toNat (A.sub (A.nat (A.len t1)) 1)) 0)) (A.shl .u8 (A.wrap .u8 (A.bit .and .i64 (A.shr .i64 e0 t0) 1)) (A.sub t2 1)))],A.sub t2 1) _ ?_ ?_ ?_
                ·subst h;exact (h10.n79 (dt p218a) (df p218b)).1
                ·subst h;exact (h10.n79 (dt p218a) (df p218b)).2
                ·clear hE hinl hV hK10; cbv; (try repeat' first|rfl|assumption|constructor)
               ·next a=>subst h;exact h10.g80 (df a)
               ·next a=>subst h;exact h10.g81 (df a)
               ·next a b=>subst h;exact h10.g82 (df a) (dt b)
               ·next a b=>subst h;exact h10.g83 (df a) (dt b)
               ·next a b=>subst h;exact h10.g82 (df a) (dt b)
               ·next a b=>subst h;exact h10.g85 (df a) (dt b)
               ·rename_i p225a p225b
                refine hK8 (t1,t2,A.tdiv (A.add b5 e0) 2,A.tdiv (A.add b6 1) 2) _ ?_ ?_
                ·subst h;exact h10.n86 (df p225a) (dt p225b)
                ·clear hE hinl hV hK8; cbv; (try repeat' first|rfl|assumption|constructor)
               ·rename_i p226a p226b
                refine hK8 (t1,t2,A.add b5 e0,A.add b6 1) _ ?_ ?_
                ·subst h;exact h10.n87 (df p226a) (df p226b)
                ·clear hE hinl hV hK8; cbv; (try repeat' first|rfl|assumption|constructor)
           ·next a=>subst h;exact r8.g88 (df a)
           ·rename_i p228a
            refine Leaf.gen fun σz hσz => ?_
            obtain ⟨I11,m11,i11,c11⟩ : V63l6 f0 f1 b5 b6 e0 I8 := by subst h;exact r8.l6 (df p228a)
            refine loopBJ hE [10,12,13,14] hinl 6 [] [] [(2,[0]),(4,[0])] (fun x : Int × Rows × Int => [.i x.1,D.l [[.l x.2.1]],D.l [[.i x.2.2]]]) (fun x => I11 x.1 x.2.1 x.2.2) (fun x => m11 x.1 x.2.1 x.2.2) (A.sub 24 1,f0,f1) (by subst h;exact i11) ?_ ?_ <;> subst hσz
            ·clear hE hinl hV; cbv; (try repeat' first|rfl|assumption|constructor)
            ·intro ⟨u0, u1, u2⟩ hI11 K11 hK11
             have h11 := c11 _ _ _ hI11
             cbv
             repeat' first|(refine Br.mk (fun _=>?_) (fun _=>?_)<;>cbv)|(refine NilB.mk (fun _=>?_) ?_<;>cbv)|refine And.intro ?_ ?_|exact True.intro
             ·next a b=>subst h;exact h11.g90 (dt a) (dt b)
             ·next a b=>subst h;exact h11.g91 (dt a) (dt b)
             ·next a b=>subst h;exact h11.g92 (dt a) (dt b)
             ·next a b=>subst h;exact h11.g93 (dt a) (dt b)
             ·next a b=>subst h;exact h11.g94 (dt a) (dt b)
             ·next a b=>subst h;exact h11.g95 (dt a) (dt b)
             ·next a b=>subst h;exact h11.g95 (dt a) (dt b)
             ·next a b=>subst h;exact h11.g97 (dt a) (dt b)
             ·next a b=>subst h;exact h11.g98 (dt a) (dt b)
             ·next a b=>subst h;exact h11.g93 (dt a) (dt b)
             ·next a b=>subst h;exact h11.g94 (dt a) (dt b)
             ·next a b=>subst h;exact h11.g95 (dt a) (dt b)
             ·next a b=>subst h;exact h11.g102 (dt a) (dt b)
             ·rename_i p242a p242b
              refine hK11 (A.sub u0 1,A.set (A.app u1 [[D.i 0]]) (A.toNat (A.sub (A.nat (A.len (A.app u1 [[D.i 0]]))) 1)) [D.i (A.bit .or .u8 (A.di (A.get (A.app u1 [[D.i 0]]) (A.toNat (A.sub (A.nat (A.len (A.app u1 [[D.i 0]]))) 1)) 0)) (A.shl .u8 (A.wrap .u8 (A.bit .and .i64 (A.shr .i64 16777215 u0) 1)) (A.sub 8 1)))],A.sub 8 1) _ ?_ ?_ ?_
              ·subst h;exact (h11.n103 (dt p242a) (dt p242b)).1
              ·subst h;exact (h11.n103 (dt p242a) (dt p242b)).2
              ·clear hE hinl hV hK11; cbv; (try repeat' first|rfl|assumption|constructor)
             ·next a b=>subst h;exact h11.g104 (dt a) (df b)
             ·next a b=>subst h;exact h11.g105 (dt a) (df b)
             ·next a b=>subst h;exact h11.g106 (dt a) (df b)
             ·next a b=>subst h;exact h11.g107 (dt a) (df b)
             ·next a b=>subst h;exact h11.g108 (dt a) (df b)
             ·next a b=>subst h;exact h11.g108 (dt a) (df b)
             ·next a b=>subst h;exact h11.g110 (dt a) (df b)
             ·next a b=>subst h;exact h11.g111 (dt a) (df b)
             ·next a b=>subst h;exact h11.g106 (dt a) (df b)
             ·next a b=>subst h;exact h11.g107 (dt a) (df b)
             ·next a b=>subst h;exact h11.g108 (dt a) (df b)
             ·next a b=>subst h;exact h11.g115 (dt a) (df b)
             ·rename_i p255a p255b
              refine hK11 (A.sub u0 1,A.set u1 (A.toNat (A.sub (A.nat (A.len u1)) 1)) [D.i (A.bit .or .u8 (A.di (A.get u1 (A.toNat (A.sub (A.nat (A.len u1)) 1)) 0)) (A.shl .u8 (A.wrap .u8 (A.bit .and .i64 (A.shr .i64 16777215 u0) 1)) (A.sub u2 1)))],A.sub u2 1) _ ?_ ?_ ?_
              ·subst h;exact (h11.n116 (dt p255a) (df p255b)).1
              ·subst h;exact (h11.n116 (dt p255a) (df p255b)).2
              ·clear hE hinl hV hK11; cbv; (try repeat' first|rfl|assumption|constructor)
             ·next a=>subst h;exact h11.g117 (df a)
             ·rename_i p257a
              refine Leaf.gen fun σz hσz => ?_
              obtain ⟨I12,m12,i12,c12⟩ : V63l7 b5 b6 e0 u1 u2 I8 := by subst h;exact h11.l7 (df p257a)
              refine loopBJ hE [10,12,13,14] hinl 6 [] [] [(2,[0]),(4,[0])] (fun x : Int × Rows × Int => [.i x.1,D.l [[.l x.2.1]],D.l [[.i x.2.2]]]) (fun x => I12 x.1 x.2.1 x.2.2) (fun x => m12 x.1 x.2.1 x.2.2) (A.sub 31 1,u1,u2) (by subst h;exact i12) ?_ ?_ <;> subst hσz
              ·clear hE hinl hV; cbv; (try repeat' first|rfl|assumption|constructor)
              ·intro ⟨v0, v1, v2⟩ hI12 K12 hK12
               have h12 := c12 _ _ _ hI12
               cbv
               repeat' first|(refine Br.mk (fun _=>?_) (fun _=>?_)<;>cbv)|(refine NilB.mk (fun _=>?_) ?_<;>cbv)|refine And.intro ?_ ?_|exact True.intro
               ·next a b=>subst h;exact h12.g53 (dt a) (dt b)
               ·next a b=>subst h;exact h12.g54 (dt a) (dt b)
               ·next a b=>subst h;exact h12.g55 (dt a) (dt b)
               ·next a b=>subst h;exact h12.g56 (dt a) (dt b)
               ·next a b=>subst h;exact h12.g57 (dt a) (dt b)
               ·next a b=>subst h;exact h12.g58 (dt a) (dt b)
               ·next a b=>subst h;exact h12.g58 (dt a) (dt b)
               ·next a b=>subst h;exact h12.g60 (dt a) (dt b)
               ·next a b=>subst h;exact h12.g61 (dt a) (dt b)
               ·next a b=>subst h;exact h12.g56 (dt a) (dt b)
               ·next a b=>subst h;exact h12.g57 (dt a) (dt b)
               ·next a b=>subst h;exact h12.g58 (dt a) (dt b)
               ·next a b=>subst h;exact h12.g65 (dt a) (dt b)
               ·rename_i p271a p271b
                refine hK12 (A.sub v0 1,A.set (A.app v1 [[D.i 0]]) (A.toNat (A.sub (A.nat (A.len (A.app v1 [[D.i 0]]))) 1)) [D.i (A.bit .or .u8 (A.di (A.get (A.app v1 [[D.i 0]]) (A.toNat (A.sub (A.nat (A.len (A.app v1 [[D.i 0]]))) 1)) 0)) (A.shl .u8 (A.wrap .u8 (A.bit .and .i64 (A.shr .i64 e0 v0) 1)) (A.sub 8 1)))],A.sub 8 1) _ ?_ ?_ ?_
                ·subst h;exact (h12.n66 (dt p271a) (dt p271b)).1
                ·subst h;exact (h12.n66 (dt p271a) (dt p271b)).2
                ·clear hE hinl hV hK12; cbv; (try repeat' first|rfl|assumption|constructor)
               ·next a b=>subst h;exact h12.g67 (dt a) (df b)
               ·next a b=>subst h;exact h12.g68 (dt a) (df b)
               ·next a b=>subst h;exact h12.g69 (dt a) (df b)
               ·next a b=>subst h;exact h12.g70 (dt a) (df b)
               ·next a b=>subst h;exact h12.g71 (dt a) (df b)
               ·next a b=>subst h;exact h12.g71 (dt a) (df b)
               ·next a b=>subst h;exact h12.g73 (dt a) (df b)
               ·next a b=>subst h;exact h12.g74 (dt a) (df b)
               ·next a b=>subst h;exact h12.g69 (dt a) (df b)
               ·next a b=>subst h;exact h12.g70 (dt a) (df b)
               ·next a b=>subst h;exact h12.g71 (dt a) (df b)
               ·next a b=>subst h;exact h12.g78 (dt a) (df b)
               ·rename_i p284a p284b
                refine hK12 (A.sub v0 1,A.set v1 (A.toNat (A.sub (A.nat (A.len v1)) 1)) [D.i (A.bit .or .u8 (A.di (A.get v1 (A.toNat (A.sub (A.nat (A.len v1)) 1)) 0)) (A.shl .u8 (A.wrap .u8 (A.bit .and .i64 (A.shr .i64 e0 v0) 1)) (A.sub v2 1)))],A.sub v2 1) _ ?_ ?_ ?_
                ·subst h;exact (h12.n79 (dt p284a) (df p284b)).1
                ·subst h;exact (h12.n79 (dt p284a) (df p284b)).2
                ·clear hE hinl hV hK12; cbv; (try repeat' first|rfl|assumption|constructor)
               ·next a=>subst h;exact h12.g80 (df a)
               ·next a=>subst h;exact h12.g81 (df a)
               ·next a b=>subst h;exact h12.g82 (df a) (dt b)
               ·next a b=>subst h;exact h12.g83 (df a) (dt b)
               ·next a b=>subst h;exact h12.g82 (df a) (dt b)
               ·next a b=>subst h;exact h12.g85 (df a) (dt b)
               ·rename_i p291a p291b
                refine hK8 (v1,v2,A.tdiv (A.add b5 e0) 2,A.tdiv (A.add b6 1) 2) _ ?_ ?_
                ·subst h;exact h12.n86 (df p291a) (dt p291b)
                ·clear hE hinl hV hK8; cbv; (try repeat' first|rfl|assumption|constructor)
               ·rename_i p292a p292b
                refine hK8 (v1,v2,A.add b5 e0,A.add b6 1) _ ?_ ?_
                ·subst h;exact h12.n87 (df p292a) (df p292b)
                ·clear hE hinl hV hK8; cbv; (try repeat' first|rfl|assumption|constructor)
          ·intro ⟨r0, r1, r2, r3⟩ hI8
           have h8 := c8 _ _ _ _ hI8
           cbv
           repeat' first|(refine Br.mk (fun _=>?_) (fun _=>?_)<;>cbv)|(refine NilB.mk (fun _=>?_) ?_<;>cbv)|refine And.intro ?_ ?_|exact True.intro
           ·subst h;exact h8.g293
           ·refine hK0 (A.add b0 1, r0, r1, f2, f3, r2, r3, A.di (A.get a0 (A.toNat b0) 0), A.di (A.get a0 (A.toNat b0) 1)) _ ?_ ?_ ?_
            ·subst h;exact (h8.n294).1
            ·subst h;exact (h8.n294).2
            ·clear hE hinl hV hK0; cbv; (try repeat' first|rfl|assumption|constructor)
   ·next a=>subst h;exact h0.g295 (df a)
   ·next a=>subst h;exact h0.g296 (df a)
   ·next a=>subst h;exact h0.g297 (df a)
end HX

namespace HX
open Go Go.Proofs CX
set_option maxHeartbeats 4000000 in
set_option maxRecDepth 100000 in
theorem walk27 {ro A pre fn} (hE : EnvOk ⟨A, (cxE ro), ksF, sigL [(51, ⟨[(false, [.sl [.int .i64, .int .i64]])], [(false, [.int .i64])], false⟩), (63, ⟨[(false, [.sl [.int .i64, .int .i64]])], [(false, [.sl [.int .u8]])], false⟩)], pre, fn⟩) {P : List (List D) → Prop} {res : List (List D) → Nat → Nat → D}
  (hv : ∀ (a0 : Rows), ShR [.int .i64, .int .i64] a0 → P [[.l a0]] → V27 pre fn a0 (res [[.l a0]]) ) :
  PureC (cxE ro) 27 ⟨[(false, [.sl [.int .i64, .int .i64]])], [(false, [.sl [.int .u8]]), (false, [.int .i64])], false⟩ P res := by
 have h := hE.A
 simp only [] at h
 have hinl : ∀ f fn, inlL [] f = some fn → (cxE ro).fn f = some fn ∧ (cxE ro).ext f = none := Inls.ok (by repeat (first | exact .nil | refine .cons rfl rfl ?_))
 refine PureC.of_vc hE hinl 6 (f := 27) (fn := Try.f27) ⟨rfl, rfl⟩ ?_
 intro a0 ha0 hP
 obtain ⟨R,hR⟩ : ∃ R,res [[.l a0]] = R := ⟨_,rfl⟩
 rw [hR]
 have hV := hv a0 ha0 hP
 rw [hR] at hV
 clear hR hP hv
 cbv
 repeat' first|(refine Br.mk (fun _=>?_) (fun _=>?_)<;>cbv)|(refine NilB.mk (fun _=>?_) ?_<;>cbv)|refine And.intro ?_ ?_|exact True.intro
 ·subst h;exact hV.g0
 ·rename_i hp1_0
  subst h;exact hV.g1 (df (nt hp1_0))
 ·rename_i hp2_0
  subst h;exact hV.g2 (df (nt hp2_0))
 ·rename_i hp3_0
  subst h;exact hV.g3 (dt (nf hp3_0))
 ·rename_i hp4_0
  subst h;exact hV.g4 (dt (nf hp4_0))
 ·rename_i hp5_0
  subst h;exact hV.g5 (dt (nf hp5_0))
end HX
