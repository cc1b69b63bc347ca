/-
  CalcWaits: for all lists of curves, curves and waits, the function returns true, and its arguments read as they did.
-/
import Derived.Test.YtlijpmeeldoofaaGreatCalcWaits9
import Derived.Test.YtlijpmeeldoofaaGreatRows
set_option linter.all false
namespace HX
open Go Go.Proofs CX
set_option maxHeartbeats 4000000 in
set_option maxRecDepth 100000 in
theorem walk14 {ro A pre fn} (hE : EnvOk ⟨A, (cxE ro), ksF, sigL [], pre, fn⟩) {P : List (List D) → Prop} {res : List (List D) → Nat → Nat → D}
    (hv : ∀ (a0_0 : Int) (a0_1 : Int), P [[.i a0_0, .i a0_1]] → V14 a0_0 a0_1 (res [[.i a0_0, .i a0_1]]) ) :
    PureC (cxE ro) 14 ⟨[(true, [.int .i64, .int .i64])], [(false, [.int .i64])], false⟩ P res := by
  have hA := hE.A
  simp only [] at hA
  have hinl : ∀ f fn, inlL [] f = some fn → (cxE ro).fn f = some fn ∧ (cxE ro).ext f = none := Inls.ok (by repeat (first | exact .nil | refine .cons rfl rfl ?_))
  refine PureC.of_vc hE hinl 6 (f := 14) (fn := Tryz.f14) ⟨rfl, rfl⟩ ?_
  intro a0_0 a0_1 hP
  obtain ⟨R, hR⟩ : ∃ R, res [[.i a0_0, .i a0_1]] = R := ⟨_, rfl⟩
  rw [hR]
  have hV := hv a0_0 a0_1  hP
  rw [hR] at hV
  clear hR hP hv
  cbv
  repeat' (first | (refine Br.mk (fun _ => ?_) (fun _ => ?_) <;> cbv) | (refine NilB.mk (fun _ => ?_) ?_ <;> cbv) | refine And.intro ?_ ?_ | exact True.intro)
  · rename_i hp0_0
    subst hA; exact hV.g0 (dt hp0_0)
  · rename_i hp1_0 hp1_1
    subst hA; exact hV.g1 (df hp1_0) (dt hp1_1)
  · rename_i hp2_0 hp2_1 hp2_2
    subst hA; exact hV.g2 (df hp2_0) (df hp2_1) (dt hp2_2)
  · rename_i hp3_0 hp3_1 hp3_2 hp3_3
    subst hA; exact hV.g3 (df hp3_0) (df hp3_1) (df hp3_2) (dt hp3_3)
  · rename_i hp4_0 hp4_1 hp4_2 hp4_3
    subst hA; exact hV.g4 (df hp4_0) (df hp4_1) (df hp4_2) (df hp4_3)
end HX

namespace HX
open Go Go.Proofs CX
set_option maxHeartbeats 4000000 in
set_option maxRecDepth 100000 in
theorem walk48 {ro A pre fn} (hE : EnvOk ⟨A, (cxE ro), ksF, sigL [], pre, fn⟩) {P : List (List D) → Prop} {res : List (List D) → Nat → Nat → D}
    (hv : ∀ (a0 : Rows), ShR [.int .i64, .int .i64] a0 → P [[.l a0]] → ∃ (I0 : Int → Int → Prop) (m0 : Int → Int → Nat), V48 a0 (res [[.l a0]]) I0 m0) :
    PureC (cxE ro) 48 ⟨[(false, [.sl [.int .i64, .int .i64]])], [(false, [.int .i64])], false⟩ P res := by
  have hA := hE.A
  simp only [] at hA
  have hinl : ∀ f fn, inlL [] f = some fn → (cxE ro).fn f = some fn ∧ (cxE ro).ext f = none := Inls.ok (by repeat (first | exact .nil | refine .cons rfl rfl ?_))
  refine PureC.of_vc hE hinl 6 (f := 48) (fn := Tryz.f48) ⟨rfl, rfl⟩ ?_
  intro a0 ha0 hP
  obtain ⟨R, hR⟩ : ∃ R, res [[.l a0]] = R := ⟨_, rfl⟩
  rw [hR]
  obtain ⟨I0, m0, hV⟩ := hv a0 ha0 hP
  rw [hR] at hV
  clear hR hP hv
  cbv
  repeat' (first | (refine Br.mk (fun _ => ?_) (fun _ => ?_) <;> cbv) | (refine NilB.mk (fun _ => ?_) ?_ <;> cbv) | refine And.intro ?_ ?_ | exact True.intro)
  · refine Leaf.gen fun σz hσz => ?_
    refine loopB hE hinl 6 [] [] [] (fun x : Int × Int => [.i x.1, .i x.2]) (fun x => I0 x.1 x.2) (fun x => m0 x.1 x.2) (0, 0) (by subst hA; exact hV.i0) ?_ ?_ <;> subst hσz
    · clear hE hinl hV; cbv; (try (repeat' (first | exact True.intro | rfl | assumption | apply And.intro)))
    · intro ⟨x0_0, x0_1⟩ hI0 K0 hK0
      cbv
      repeat' (first | (refine Br.mk (fun _ => ?_) (fun _ => ?_) <;> cbv) | (refine NilB.mk (fun _ => ?_) ?_ <;> cbv) | refine And.intro ?_ ?_ | exact True.intro)
      · rename_i hp1_0
        subst hA; exact hV.g1 _ _ hI0 (dt hp1_0)
      · rename_i hp2_0
        subst hA; exact hV.g2 _ _ hI0 (dt hp2_0)
      · rename_i hp3_0
        subst hA; exact hV.g3 _ _ hI0 (dt hp3_0)
      · rename_i hp4_0 hp4_1
        subst hA; exact hV.g4 _ _ hI0 (dt hp4_0) (dt hp4_1)
      · rename_i hp5_0 hp5_1 hp5_2
        subst hA; exact hV.g5 _ _ hI0 (dt hp5_0) (df hp5_1) (dt hp5_2)
      · rename_i hp6_0 hp6_1 hp6_2 hp6_3
        subst hA; exact hV.g6 _ _ hI0 (dt hp6_0) (df hp6_1) (df hp6_2) (dt hp6_3)
      · rename_i hp7_0 hp7_1 hp7_2 hp7_3 hp7_4
        subst hA; exact hV.g7 _ _ hI0 (dt hp7_0) (df hp7_1) (df hp7_2) (df hp7_3) (dt hp7_4)
      · rename_i hp8_0 hp8_1 hp8_2 hp8_3 hp8_4
        subst hA; exact hV.g8 _ _ hI0 (dt hp8_0) (df hp8_1) (df hp8_2) (df hp8_3) (df hp8_4)
      · rename_i hp9_0 hp9_1 hp9_2 hp9_3 hp9_4
        refine hK0 (x0_0, A.add x0_1 1) _ ?_ ?_ ?_
        · subst hA; exact (hV.n9 _ _ hI0 (dt hp9_0) (df hp9_1) (df hp9_2) (df hp9_3) (df hp9_4)).1
        · subst hA; exact (hV.n9 _ _ hI0 (dt hp9_0) (df hp9_1) (df hp9_2) (df hp9_3) (df hp9_4)).2
        · clear hE hinl hV hK0; cbv; (try (repeat' (first | exact True.intro | rfl | assumption | apply And.intro)))
      · rename_i hp10_0
        subst hA; exact hV.g10 _ _ hI0 (df hp10_0)
end HX

namespace HX
open Go Go.Proofs CX
set_option maxHeartbeats 4000000 in
set_option maxRecDepth 100000 in
theorem walk13 {ro A pre fn} (hE : EnvOk ⟨A, (cxE ro), ksF, sigL [(48, ⟨[(false, [.sl [.int .i64, .int .i64]])], [(false, [.int .i64])], false⟩)], pre, fn⟩) {P : List (List D) → Prop} {res : List (List D) → Nat → Nat → D}
    (hv : ∀ (a0_0 : Int) (a0_1 : Int), P [[.i a0_0, .i a0_1]] → V13 pre fn a0_0 a0_1 (res [[.i a0_0, .i a0_1]]) ) :
    PureC (cxE ro) 13 ⟨[(true, [.int .i64, .int .i64])], [(false, [.int .i64])], false⟩ P res := by
  have hA := hE.A
  simp only [] at hA
  have hinl : ∀ f fn, inlL [] f = some fn → (cxE ro).fn f = some fn ∧ (cxE ro).ext f = none := Inls.ok (by repeat (first | exact .nil | refine .cons rfl rfl ?_))
  refine PureC.of_vc hE hinl 6 (f := 13) (fn := Tryz.f13) ⟨rfl, rfl⟩ ?_
  intro a0_0 a0_1 hP
  obtain ⟨R, hR⟩ : ∃ R, res [[.i a0_0, .i a0_1]] = R := ⟨_, rfl⟩
  rw [hR]
  have hV := hv a0_0 a0_1  hP
  rw [hR] at hV
  clear hR hP hv
  cbv
  repeat' (first | (refine Br.mk (fun _ => ?_) (fun _ => ?_) <;> cbv) | (refine NilB.mk (fun _ => ?_) ?_ <;> cbv) | refine And.intro ?_ ?_ | exact True.intro)
  · subst hA; exact hV.g0
  · subst hA; exact hV.g1
end HX

namespace HX
open Go Go.Proofs CX
set_option maxHeartbeats 4000000 in
set_option maxRecDepth 100000 in
theorem walk53 {ro A pre fn} (hE : EnvOk ⟨A, (cxE ro), ksF, sigL [], pre, fn⟩) {P : List (List D) → Prop} {res : List (List D) → Nat → Nat → D}
    (hv : ∀ (a0 : Rows), ShR [.int .i64, .int .i64] a0 → P [[.l a0]] → ∃ (I0 : Int → Int → Int → Prop) (m0 : Int → Int → Int → Nat), V53 a0 (res [[.l a0]]) I0 m0) :
    PureC (cxE ro) 53 ⟨[(false, [.sl [.int .i64, .int .i64]])], [(true, [.int .i64, .int .i64])], false⟩ P res := by
  have hA := hE.A
  simp only [] at hA
  have hinl : ∀ f fn, inlL [] f = some fn → (cxE ro).fn f = some fn ∧ (cxE ro).ext f = none := Inls.ok (by repeat (first | exact .nil | refine .cons rfl rfl ?_))
  refine PureC.of_vc hE hinl 6 (f := 53) (fn := Tryz.f53) ⟨rfl, rfl⟩ ?_
  intro a0 ha0 hP
  obtain ⟨R, hR⟩ : ∃ R, res [[.l a0]] = R := ⟨_, rfl⟩
  rw [hR]
  obtain ⟨I0, m0, hV⟩ := hv a0 ha0 hP
  rw [hR] at hV
  clear hR hP hv
  cbv
  repeat' (first | (refine Br.mk (fun _ => ?_) (fun _ => ?_) <;> cbv) | (refine NilB.mk (fun _ => ?_) ?_ <;> cbv) | refine And.intro ?_ ?_ | exact True.intro)
  · refine Leaf.gen fun σz hσz => ?_
    refine loopB hE hinl 6 [] [] [(2, [])] (fun x : Int × Int × Int => [.i x.1, D.l [[.i x.2.1, .i x.2.2]]]) (fun x => I0 x.1 x.2.1 x.2.2) (fun x => m0 x.1 x.2.1 x.2.2) (0, 0, 0) (by subst hA; exact hV.i0) ?_ ?_ <;> subst hσz
    · clear hE hinl hV; cbv; (try (repeat' (first | exact True.intro | rfl | assumption | apply And.intro)))
    · intro ⟨x0_0, x0_1, x0_2⟩ hI0 K0 hK0
      cbv
      repeat' (first | (refine Br.mk (fun _ => ?_) (fun _ => ?_) <;> cbv) | (refine NilB.mk (fun _ => ?_) ?_ <;> cbv) | refine And.intro ?_ ?_ | exact True.intro)
      · rename_i hp1_0
        subst hA; exact hV.g1 _ _ _ hI0 (dt hp1_0)
      · rename_i hp2_0
        subst hA; exact hV.g2 _ _ _ hI0 (dt hp2_0)
      · rename_i hp3_0
        subst hA; exact hV.g3 _ _ _ hI0 (dt hp3_0)
      · rename_i hp4_0
        subst hA; exact hV.g4 _ _ _ hI0 (dt hp4_0)
      · rename_i hp5_0
        subst hA; exact hV.g5 _ _ _ hI0 (dt hp5_0)
      · rename_i hp6_0
        subst hA; exact hV.g6 _ _ _ hI0 (dt hp6_0)
      · rename_i hp7_0
        refine hK0 (A.add x0_0 1, A.add x0_1 (A.di (A.get a0 (A.toNat x0_0) 0)), A.add x0_2 (A.di (A.get a0 (A.toNat x0_0) 1))) _ ?_ ?_ ?_
        · subst hA; exact (hV.n7 _ _ _ hI0 (dt hp7_0)).1
        · subst hA; exact (hV.n7 _ _ _ hI0 (dt hp7_0)).2
        · clear hE hinl hV hK0; cbv; (try (repeat' (first | exact True.intro | rfl | assumption | apply And.intro)))
      · rename_i hp8_0
        subst hA; exact hV.g8 _ _ _ hI0 (df hp8_0)
      · rename_i hp9_0
        subst hA; exact hV.g9 _ _ _ hI0 (df hp9_0)
end HX

namespace HX
open Go Go.Proofs CX
set_option maxHeartbeats 4000000 in
set_option maxRecDepth 100000 in
theorem walk20 {ro A pre fn} (hE : EnvOk ⟨A, (cxE ro), ksF, sigL [(48, ⟨[(false, [.sl [.int .i64, .int .i64]])], [(false, [.int .i64])], false⟩), (53, ⟨[(false, [.sl [.int .i64, .int .i64]])], [(true, [.int .i64, .int .i64])], false⟩), (13, ⟨[(true, [.int .i64, .int .i64])], [(false, [.int .i64])], false⟩)], pre, fn⟩) {P : List (List D) → Prop} {res : List (List D) → Nat → Nat → D}
    (hv : ∀ (a0 : Rows), ShR [.int .i64, .int .i64] a0 → P [[.l a0]] → V20 pre fn a0 (res [[.l a0]]) ) :
    PureC (cxE ro) 20 ⟨[(false, [.sl [.int .i64, .int .i64]])], [(true, [.int .i64, .int .i64]), (false, [.int .i64])], false⟩ P res := by
  have hA := hE.A
  simp only [] at hA
  have hinl : ∀ f fn, inlL [] f = some fn → (cxE ro).fn f = some fn ∧ (cxE ro).ext f = none := Inls.ok (by repeat (first | exact .nil | refine .cons rfl rfl ?_))
  refine PureC.of_vc hE hinl 6 (f := 20) (fn := Tryz.f20) ⟨rfl, rfl⟩ ?_
  intro a0 ha0 hP
  obtain ⟨R, hR⟩ : ∃ R, res [[.l a0]] = R := ⟨_, rfl⟩
  rw [hR]
  have hV := hv a0 ha0 hP
  rw [hR] at hV
  clear hR hP hv
  cbv
  repeat' (first | (refine Br.mk (fun _ => ?_) (fun _ => ?_) <;> cbv) | (refine NilB.mk (fun _ => ?_) ?_ <;> cbv) | refine And.intro ?_ ?_ | exact True.intro)
  · subst hA; exact hV.g0
  · rename_i hp1_0
    subst hA; exact hV.g1 (df (nt hp1_0))
  · rename_i hp2_0
    subst hA; exact hV.g2 (df (nt hp2_0))
  · rename_i hp3_0
    subst hA; exact hV.g3 (df (nt hp3_0))
  · rename_i hp4_0
    subst hA; exact hV.g4 (dt (nf hp4_0))
  · rename_i hp5_0
    subst hA; exact hV.g5 (dt (nf hp5_0))
  · rename_i hp6_0 hp6_1
    subst hA; exact hV.g6 (dt (nf hp6_0)) (df (nt hp6_1))
  · rename_i hp7_0 hp7_1
    subst hA; exact hV.g7 (dt (nf hp7_0)) (df (nt hp7_1))
  · rename_i hp8_0 hp8_1
    subst hA; exact hV.g8 (dt (nf hp8_0)) (df (nt hp8_1))
  · rename_i hp9_0 hp9_1
    subst hA; exact hV.g9 (dt (nf hp9_0)) (dt (nf hp9_1))
  · rename_i hp10_0 hp10_1
    subst hA; exact hV.g10 (dt (nf hp10_0)) (dt (nf hp10_1))
  · rename_i hp11_0 hp11_1
    subst hA; exact hV.g11 (dt (nf hp11_0)) (dt (nf hp11_1))
end HX

namespace HX
open Go Go.Proofs CX
set_option maxHeartbeats 4000000 in
set_option maxRecDepth 100000 in
theorem walk21 {ro A pre fn} (hE : EnvOk ⟨A, (cxE ro), ksF, sigL [(14, ⟨[(true, [.int .i64, .int .i64])], [(false, [.int .i64])], false⟩)], pre, fn⟩) {P : List (List D) → Prop} {res : List (List D) → Nat → Nat → D}
    (hv : ∀ (a0 : Rows), ShR [.int .i64, .int .i64] a0 → P [[.l a0]] → ∃ (I0 : Int → Prop) (m0 : Int → Nat) (I1 : Int → Int → Int → Int → Prop) (m1 : Int → Int → Int → Int → Nat), V21 pre fn a0 (res [[.l a0]]) I0 m0 I1 m1) :
    PureC (cxE ro) 21 ⟨[(false, [.sl [.int .i64, .int .i64]])], [(true, [.int .i64, .int .i64]), (false, [.int .i64])], false⟩ P res := by
  have hA := hE.A
  simp only [] at hA
  have hinl : ∀ f fn, inlL [] f = some fn → (cxE ro).fn f = some fn ∧ (cxE ro).ext f = none := Inls.ok (by repeat (first | exact .nil | refine .cons rfl rfl ?_))
  refine PureC.of_vc hE hinl 6 (f := 21) (fn := Tryz.f21) ⟨rfl, rfl⟩ ?_
  intro a0 ha0 hP
  obtain ⟨R, hR⟩ : ∃ R, res [[.l a0]] = R := ⟨_, rfl⟩
  rw [hR]
  obtain ⟨I0, m0, I1, m1, hV⟩ := hv a0 ha0 hP
  rw [hR] at hV
  clear hR hP hv
  cbv
  repeat' (first | (refine Br.mk (fun _ => ?_) (fun _ => ?_) <;> cbv) | (refine NilB.mk (fun _ => ?_) ?_ <;> cbv) | refine And.intro ?_ ?_ | exact True.intro)
  · refine Leaf.gen fun σz hσz => ?_
    refine loopB hE hinl 6 [] [3] [] (fun x : Int => [.i x]) (fun x => I0 x) (fun x => m0 x) (0) (by subst hA; exact hV.i0) ?_ ?_ <;> subst hσz
    · clear hE hinl hV; cbv; (try (repeat' (first | exact True.intro | rfl | assumption | apply And.intro)))
    · intro x0_0 hI0 K0 hK0
      cbv
      repeat' (first | (refine Br.mk (fun _ => ?_) (fun _ => ?_) <;> cbv) | (refine NilB.mk (fun _ => ?_) ?_ <;> cbv) | refine And.intro ?_ ?_ | exact True.intro)
      · rename_i hp1_0
        subst hA; exact hV.g1 _ hI0 (dt hp1_0)
      · rename_i hp2_0
        subst hA; exact hV.g2 _ hI0 (dt hp2_0)
      · rename_i hp3_0
        subst hA; exact hV.g3 _ hI0 (dt hp3_0)
      · rename_i hp4_0
        subst hA; exact hV.g4 _ hI0 (dt hp4_0)
      · rename_i hp5_0 hp5_1
        subst hA; exact hV.g5 _ hI0 (dt hp5_0) (df (nt hp5_1))
      · rename_i hp6_0 hp6_1
        subst hA; exact hV.g6 _ hI0 (dt hp6_0) (df (nt hp6_1))
      · rename_i hp7_0 hp7_1
        subst hA; exact hV.g7 _ hI0 (dt hp7_0) (df (nt hp7_1))
      · rename_i hp8_0 hp8_1
        subst hA; exact hV.g8 _ hI0 (dt hp8_0) (dt (nf hp8_1))
      · rename_i hp9_0 hp9_1
        refine hK0 (A.add x0_0 1) _ ?_ ?_ ?_
        · subst hA; exact (hV.n9 _ hI0 (dt hp9_0) (dt (nf hp9_1))).1
        · subst hA; exact (hV.n9 _ hI0 (dt hp9_0) (dt (nf hp9_1))).2
        · clear hE hinl hV hK0; cbv; (try (repeat' (first | exact True.intro | rfl | assumption | apply And.intro)))
      · rename_i hp10_0
        refine Leaf.gen fun σz hσz => ?_
        refine loopB hE hinl 6 [] [3] [(2, [])] (fun x : Int × Int × Int => [.i x.1, D.l [[.i x.2.1, .i x.2.2]]]) (fun x => I1 x0_0 x.1 x.2.1 x.2.2) (fun x => m1 x0_0 x.1 x.2.1 x.2.2) (0, 0, 0) (by subst hA; exact hV.i1 _ hI0 (df hp10_0)) ?_ ?_ <;> subst hσz
        · clear hE hinl hV; cbv; (try (repeat' (first | exact True.intro | rfl | assumption | apply And.intro)))
        · intro ⟨x1_0, x1_1, x1_2⟩ hI1 K1 hK1
          cbv
          repeat' (first | (refine Br.mk (fun _ => ?_) (fun _ => ?_) <;> cbv) | (refine NilB.mk (fun _ => ?_) ?_ <;> cbv) | refine And.intro ?_ ?_ | exact True.intro)
          · rename_i hp11_0
            subst hA; exact hV.g11 _ hI0 _ _ _ hI1 (df hp10_0) (dt hp11_0)
          · rename_i hp12_0
            subst hA; exact hV.g12 _ hI0 _ _ _ hI1 (df hp10_0) (dt hp12_0)
          · rename_i hp13_0
            subst hA; exact hV.g13 _ hI0 _ _ _ hI1 (df hp10_0) (dt hp13_0)
          · rename_i hp14_0
            subst hA; exact hV.g14 _ hI0 _ _ _ hI1 (df hp10_0) (dt hp14_0)
          · rename_i hp15_0
            subst hA; exact hV.g11 _ hI0 _ _ _ hI1 (df hp10_0) (dt hp15_0)
          · rename_i hp16_0
            subst hA; exact hV.g12 _ hI0 _ _ _ hI1 (df hp10_0) (dt hp16_0)
          · rename_i hp17_0
            subst hA; exact hV.g13 _ hI0 _ _ _ hI1 (df hp10_0) (dt hp17_0)
          · rename_i hp18_0
            subst hA; exact hV.g18 _ hI0 _ _ _ hI1 (df hp10_0) (dt hp18_0)
          · rename_i hp19_0
            subst hA; exact hV.g19 _ hI0 _ _ _ hI1 (df hp10_0) (dt hp19_0)
          · rename_i hp20_0 hp20_1
            subst hA; exact hV.g20 _ hI0 _ _ _ hI1 (df hp10_0) (dt hp20_0) (df (nt hp20_1))
          · rename_i hp21_0 hp21_1
            subst hA; exact hV.g21 _ hI0 _ _ _ hI1 (df hp10_0) (dt hp21_0) (df (nt hp21_1))
          · rename_i hp22_0 hp22_1
            subst hA; exact hV.g22 _ hI0 _ _ _ hI1 (df hp10_0) (dt hp22_0) (df (nt hp22_1))
          · rename_i hp23_0 hp23_1
            subst hA; exact hV.g23 _ hI0 _ _ _ hI1 (df hp10_0) (dt hp23_0) (dt (nf hp23_1))
          · rename_i hp24_0 hp24_1
            refine hK1 (A.add x1_0 1, A.add x1_1 (A.di (A.get a0 (A.toNat x1_0) 0)), A.add x1_2 (A.di (A.get a0 (A.toNat x1_0) 1))) _ ?_ ?_ ?_
            · subst hA; exact (hV.n24 _ hI0 _ _ _ hI1 (df hp10_0) (dt hp24_0) (dt (nf hp24_1))).1
            · subst hA; exact (hV.n24 _ hI0 _ _ _ hI1 (df hp10_0) (dt hp24_0) (dt (nf hp24_1))).2
            · clear hE hinl hV hK1; cbv; (try (repeat' (first | exact True.intro | rfl | assumption | apply And.intro)))
          · rename_i hp25_0
            subst hA; exact hV.g25 _ hI0 _ _ _ hI1 (df hp10_0) (df hp25_0)
          · rename_i hp26_0
            subst hA; exact hV.g26 _ hI0 _ _ _ hI1 (df hp10_0) (df hp26_0)
          · rename_i hp27_0
            subst hA; exact hV.g27 _ hI0 _ _ _ hI1 (df hp10_0) (df hp27_0)
end HX

namespace HX
open Go Go.Proofs CX
set_option maxHeartbeats 4000000 in
set_option maxRecDepth 100000 in
theorem walk22 {ro A pre fn} (hE : EnvOk ⟨A, (cxE ro), ksF, sigL [(48, ⟨[(false, [.sl [.int .i64, .int .i64]])], [(false, [.int .i64])], false⟩), (53, ⟨[(false, [.sl [.int .i64, .int .i64]])], [(true, [.int .i64, .int .i64])], false⟩)], pre, fn⟩) {P : List (List D) → Prop} {res : List (List D) → Nat → Nat → D}
    (hv : ∀ (a0_0 : Int) (a0_1 : Int) (a1_0 : Int) (a1_1 : Int), P [[.i a0_0, .i a0_1], [.i a1_0, .i a1_1]] → V22 pre fn a0_0 a0_1 a1_0 a1_1 (res [[.i a0_0, .i a0_1], [.i a1_0, .i a1_1]]) ) :
    PureC (cxE ro) 22 ⟨[(true, [.int .i64, .int .i64]), (true, [.int .i64, .int .i64])], [(false, [.int .i64]), (false, [.int .i64]), (false, [.int .i64])], false⟩ P res := by
  have hA := hE.A
  simp only [] at hA
  have hinl : ∀ f fn, inlL [] f = some fn → (cxE ro).fn f = some fn ∧ (cxE ro).ext f = none := Inls.ok (by repeat (first | exact .nil | refine .cons rfl rfl ?_))
  refine PureC.of_vc hE hinl 6 (f := 22) (fn := Tryz.f22) ⟨rfl, rfl⟩ ?_
  intro a0_0 a0_1 a1_0 a1_1 hP
  obtain ⟨R, hR⟩ : ∃ R, res [[.i a0_0, .i a0_1], [.i a1_0, .i a1_1]] = R := ⟨_, rfl⟩
  rw [hR]
  have hV := hv a0_0 a0_1 a1_0 a1_1  hP
  rw [hR] at hV
  clear hR hP hv
  cbv
  repeat' (first | (refine Br.mk (fun _ => ?_) (fun _ => ?_) <;> cbv) | (refine NilB.mk (fun _ => ?_) ?_ <;> cbv) | refine And.intro ?_ ?_ | exact True.intro)
  · subst hA; exact hV.g0
  · rename_i hp1_0
    subst hA; exact hV.g1 (df (nt hp1_0))
  · rename_i hp2_0
    subst hA; exact hV.g2 (df (nt hp2_0))
  · rename_i hp3_0
    subst hA; exact hV.g3 (df (nt hp3_0))
  · rename_i hp4_0
    subst hA; exact hV.g4 (dt (nf hp4_0))
  · rename_i hp5_0 hp5_1
    subst hA; exact hV.g5 (dt (nf hp5_0)) (dt hp5_1)
  · rename_i hp6_0 hp6_1
    subst hA; exact hV.g6 (dt (nf hp6_0)) (dt hp6_1)
  · rename_i hp7_0 hp7_1
    subst hA; exact hV.g7 (dt (nf hp7_0)) (dt hp7_1)
  · rename_i hp8_0 hp8_1 hp8_2
    subst hA; exact hV.g8 (dt (nf hp8_0)) (df hp8_1) (dt hp8_2)
  · rename_i hp9_0 hp9_1 hp9_2
    subst hA; exact hV.g9 (dt (nf hp9_0)) (df hp9_1) (dt hp9_2)
  · rename_i hp10_0 hp10_1 hp10_2
    subst hA; exact hV.g10 (dt (nf hp10_0)) (df hp10_1) (dt hp10_2)
  · rename_i hp11_0 hp11_1 hp11_2
    subst hA; exact hV.g11 (dt (nf hp11_0)) (df hp11_1) (df hp11_2)
  · rename_i hp12_0 hp12_1 hp12_2 hp12_3
    subst hA; exact hV.g12 (dt (nf hp12_0)) (df hp12_1) (df hp12_2) (dt hp12_3)
  · rename_i hp13_0 hp13_1 hp13_2 hp13_3
    subst hA; exact hV.g13 (dt (nf hp13_0)) (df hp13_1) (df hp13_2) (dt hp13_3)
  · rename_i hp14_0 hp14_1 hp14_2 hp14_3
    subst hA; exact hV.g14 (dt (nf hp14_0)) (df hp14_1) (df hp14_2) (dt hp14_3)
  · rename_i hp15_0 hp15_1 hp15_2 hp15_3
    subst hA; exact hV.g15 (dt (nf hp15_0)) (df hp15_1) (df hp15_2) (df hp15_3)
  · rename_i hp16_0 hp16_1 hp16_2 hp16_3
    subst hA; exact hV.g16 (dt (nf hp16_0)) (df hp16_1) (df hp16_2) (df hp16_3)
  · rename_i hp17_0 hp17_1 hp17_2 hp17_3
    subst hA; exact hV.g17 (dt (nf hp17_0)) (df hp17_1) (df hp17_2) (df hp17_3)
  · rename_i hp18_0 hp18_1 hp18_2 hp18_3
    subst hA; exact hV.g18 (dt (nf hp18_0)) (df hp18_1) (df hp18_2) (df hp18_3)
  · rename_i hp19_0 hp19_1 hp19_2 hp19_3
    subst hA; exact hV.g19 (dt (nf hp19_0)) (df hp19_1) (df hp19_2) (df hp19_3)
  · rename_i hp20_0 hp20_1 hp20_2 hp20_3
    subst hA; exact hV.g20 (dt (nf hp20_0)) (df hp20_1) (df hp20_2) (df hp20_3)
  · rename_i hp21_0 hp21_1 hp21_2 hp21_3
    subst hA; exact hV.g21 (dt (nf hp21_0)) (df hp21_1) (df hp21_2) (df hp21_3)
  · rename_i hp22_0 hp22_1 hp22_2 hp22_3
    subst hA; exact hV.g22 (dt (nf hp22_0)) (df hp22_1) (df hp22_2) (df hp22_3)
  · rename_i hp23_0 hp23_1 hp23_2 hp23_3
    subst hA; exact hV.g23 (dt (nf hp23_0)) (df hp23_1) (df hp23_2) (df hp23_3)
  · rename_i hp24_0 hp24_1 hp24_2 hp24_3
    subst hA; exact hV.g24 (dt (nf hp24_0)) (df hp24_1) (df hp24_2) (df hp24_3)
  · rename_i hp25_0 hp25_1 hp25_2 hp25_3
    subst hA; exact hV.g25 (dt (nf hp25_0)) (df hp25_1) (df hp25_2) (df hp25_3)
end HX

namespace HX
open Go Go.Proofs CX
set_option maxHeartbeats 4000000 in
set_option maxRecDepth 100000 in
theorem walk23 {ro A pre fn} (hE : EnvOk ⟨A, (cxE ro), ksF, sigL [(14, ⟨[(true, [.int .i64, .int .i64])], [(false, [.int .i64])], false⟩)], pre, fn⟩) {P : List (List D) → Prop} {res : List (List D) → Nat → Nat → D}
    (hv : ∀ (a0_0 : Int) (a0_1 : Int) (a1_0 : Int) (a1_1 : Int), P [[.i a0_0, .i a0_1], [.i a1_0, .i a1_1]] → V23 pre fn a0_0 a0_1 a1_0 a1_1 (res [[.i a0_0, .i a0_1], [.i a1_0, .i a1_1]]) ) :
    PureC (cxE ro) 23 ⟨[(true, [.int .i64, .int .i64]), (true, [.int .i64, .int .i64])], [(false, [.int .i64]), (false, [.int .i64]), (false, [.int .i64])], false⟩ P res := by
  have hA := hE.A
  simp only [] at hA
  have hinl : ∀ f fn, inlL [] f = some fn → (cxE ro).fn f = some fn ∧ (cxE ro).ext f = none := Inls.ok (by repeat (first | exact .nil | refine .cons rfl rfl ?_))
  refine PureC.of_vc hE hinl 6 (f := 23) (fn := Tryz.f23) ⟨rfl, rfl⟩ ?_
  intro a0_0 a0_1 a1_0 a1_1 hP
  obtain ⟨R, hR⟩ : ∃ R, res [[.i a0_0, .i a0_1], [.i a1_0, .i a1_1]] = R := ⟨_, rfl⟩
  rw [hR]
  have hV := hv a0_0 a0_1 a1_0 a1_1  hP
  rw [hR] at hV
  clear hR hP hv
  cbv
  repeat' (first | (refine Br.mk (fun _ => ?_) (fun _ => ?_) <;> cbv) | (refine NilB.mk (fun _ => ?_) ?_ <;> cbv) | refine And.intro ?_ ?_ | exact True.intro)
  · subst hA; exact hV.g0
  · rename_i hp1_0
    subst hA; exact hV.g1 (dt hp1_0)
  · rename_i hp2_0 hp2_1
    subst hA; exact hV.g2 (dt hp2_0) (df (nt hp2_1))
  · rename_i hp3_0 hp3_1
    subst hA; exact hV.g3 (dt hp3_0) (df (nt hp3_1))
  · rename_i hp4_0 hp4_1
    subst hA; exact hV.g4 (dt hp4_0) (df (nt hp4_1))
  · rename_i hp5_0 hp5_1
    subst hA; exact hV.g5 (dt hp5_0) (dt (nf hp5_1))
  · rename_i hp6_0 hp6_1 hp6_2
    subst hA; exact hV.g6 (dt hp6_0) (dt (nf hp6_1)) (dt hp6_2)
  · rename_i hp7_0 hp7_1 hp7_2
    subst hA; exact hV.g7 (dt hp7_0) (dt (nf hp7_1)) (dt hp7_2)
  · rename_i hp8_0 hp8_1 hp8_2
    subst hA; exact hV.g8 (dt hp8_0) (dt (nf hp8_1)) (dt hp8_2)
  · rename_i hp9_0 hp9_1 hp9_2 hp9_3
    subst hA; exact hV.g9 (dt hp9_0) (dt (nf hp9_1)) (df hp9_2) (dt hp9_3)
  · rename_i hp10_0 hp10_1 hp10_2 hp10_3
    subst hA; exact hV.g10 (dt hp10_0) (dt (nf hp10_1)) (df hp10_2) (dt hp10_3)
  · rename_i hp11_0 hp11_1 hp11_2 hp11_3
    subst hA; exact hV.g11 (dt hp11_0) (dt (nf hp11_1)) (df hp11_2) (dt hp11_3)
  · rename_i hp12_0 hp12_1 hp12_2 hp12_3
    subst hA; exact hV.g12 (dt hp12_0) (dt (nf hp12_1)) (df hp12_2) (df hp12_3)
  · rename_i hp13_0 hp13_1 hp13_2 hp13_3 hp13_4
    subst hA; exact hV.g13 (dt hp13_0) (dt (nf hp13_1)) (df hp13_2) (df hp13_3) (dt hp13_4)
  · rename_i hp14_0 hp14_1 hp14_2 hp14_3 hp14_4
    subst hA; exact hV.g14 (dt hp14_0) (dt (nf hp14_1)) (df hp14_2) (df hp14_3) (dt hp14_4)
  · rename_i hp15_0 hp15_1 hp15_2 hp15_3 hp15_4
    subst hA; exact hV.g15 (dt hp15_0) (dt (nf hp15_1)) (df hp15_2) (df hp15_3) (dt hp15_4)
  · rename_i hp16_0 hp16_1 hp16_2 hp16_3 hp16_4
    subst hA; exact hV.g16 (dt hp16_0) (dt (nf hp16_1)) (df hp16_2) (df hp16_3) (df hp16_4)
  · rename_i hp17_0 hp17_1 hp17_2 hp17_3 hp17_4
    subst hA; exact hV.g17 (dt hp17_0) (dt (nf hp17_1)) (df hp17_2) (df hp17_3) (df hp17_4)
  · rename_i hp18_0 hp18_1 hp18_2 hp18_3 hp18_4
    subst hA; exact hV.g18 (dt hp18_0) (dt (nf hp18_1)) (df hp18_2) (df hp18_3) (df hp18_4)
  · rename_i hp19_0 hp19_1 hp19_2 hp19_3 hp19_4
    subst hA; exact hV.g19 (dt hp19_0) (dt (nf hp19_1)) (df hp19_2) (df hp19_3) (df hp19_4)
  · rename_i hp20_0 hp20_1 hp20_2 hp20_3 hp20_4
    subst hA; exact hV.g20 (dt hp20_0) (dt (nf hp20_1)) (df hp20_2) (df hp20_3) (df hp20_4)
  · rename_i hp21_0 hp21_1 hp21_2 hp21_3 hp21_4
    subst hA; exact hV.g21 (dt hp21_0) (dt (nf hp21_1)) (df hp21_2) (df hp21_3) (df hp21_4)
  · rename_i hp22_0 hp22_1 hp22_2 hp22_3 hp22_4
    subst hA; exact hV.g22 (dt hp22_0) (dt (nf hp22_1)) (df hp22_2) (df hp22_3) (df hp22_4)
  · rename_i hp23_0 hp23_1 hp23_2 hp23_3 hp23_4
    subst hA; exact hV.g23 (dt hp23_0) (dt (nf hp23_1)) (df hp23_2) (df hp23_3) (df hp23_4)
  · rename_i hp24_0 hp24_1 hp24_2 hp24_3 hp24_4
    subst hA; exact hV.g24 (dt hp24_0) (dt (nf hp24_1)) (df hp24_2) (df hp24_3) (df hp24_4)
  · rename_i hp25_0 hp25_1 hp25_2 hp25_3 hp25_4
    subst hA; exact hV.g25 (dt hp25_0) (dt (nf hp25_1)) (df hp25_2) (df hp25_3) (df hp25_4)
  · rename_i hp26_0 hp26_1 hp26_2 hp26_3 hp26_4
    subst hA; exact hV.g26 (dt hp26_0) (dt (nf hp26_1)) (df hp26_2) (df hp26_3) (df hp26_4)
  · rename_i hp27_0 hp27_1 hp27_2 hp27_3 hp27_4
    subst hA; exact hV.g27 (dt hp27_0) (dt (nf hp27_1)) (df hp27_2) (df hp27_3) (df hp27_4)
  · rename_i hp28_0 hp28_1
    subst hA; exact hV.g28 (df hp28_0) (df (nt hp28_1))
  · rename_i hp29_0 hp29_1
    subst hA; exact hV.g29 (df hp29_0) (df (nt hp29_1))
  · rename_i hp30_0 hp30_1
    subst hA; exact hV.g30 (df hp30_0) (df (nt hp30_1))
  · rename_i hp31_0 hp31_1
    subst hA; exact hV.g31 (df hp31_0) (dt (nf hp31_1))
  · rename_i hp32_0 hp32_1 hp32_2
    subst hA; exact hV.g32 (df hp32_0) (dt (nf hp32_1)) (dt hp32_2)
  · rename_i hp33_0 hp33_1 hp33_2
    subst hA; exact hV.g33 (df hp33_0) (dt (nf hp33_1)) (dt hp33_2)
  · rename_i hp34_0 hp34_1 hp34_2
    subst hA; exact hV.g34 (df hp34_0) (dt (nf hp34_1)) (dt hp34_2)
  · rename_i hp35_0 hp35_1 hp35_2 hp35_3
    subst hA; exact hV.g35 (df hp35_0) (dt (nf hp35_1)) (df hp35_2) (dt hp35_3)
  · rename_i hp36_0 hp36_1 hp36_2 hp36_3
    subst hA; exact hV.g36 (df hp36_0) (dt (nf hp36_1)) (df hp36_2) (dt hp36_3)
  · rename_i hp37_0 hp37_1 hp37_2 hp37_3
    subst hA; exact hV.g37 (df hp37_0) (dt (nf hp37_1)) (df hp37_2) (dt hp37_3)
  · rename_i hp38_0 hp38_1 hp38_2 hp38_3
    subst hA; exact hV.g38 (df hp38_0) (dt (nf hp38_1)) (df hp38_2) (df hp38_3)
  · rename_i hp39_0 hp39_1 hp39_2 hp39_3 hp39_4
    subst hA; exact hV.g39 (df hp39_0) (dt (nf hp39_1)) (df hp39_2) (df hp39_3) (dt hp39_4)
  · rename_i hp40_0 hp40_1 hp40_2 hp40_3 hp40_4
    subst hA; exact hV.g40 (df hp40_0) (dt (nf hp40_1)) (df hp40_2) (df hp40_3) (dt hp40_4)
  · rename_i hp41_0 hp41_1 hp41_2 hp41_3 hp41_4
    subst hA; exact hV.g41 (df hp41_0) (dt (nf hp41_1)) (df hp41_2) (df hp41_3) (dt hp41_4)
  · rename_i hp42_0 hp42_1 hp42_2 hp42_3 hp42_4
    subst hA; exact hV.g42 (df hp42_0) (dt (nf hp42_1)) (df hp42_2) (df hp42_3) (df hp42_4)
  · rename_i hp43_0 hp43_1 hp43_2 hp43_3 hp43_4
    subst hA; exact hV.g43 (df hp43_0) (dt (nf hp43_1)) (df hp43_2) (df hp43_3) (df hp43_4)
  · rename_i hp44_0 hp44_1 hp44_2 hp44_3 hp44_4
    subst hA; exact hV.g44 (df hp44_0) (dt (nf hp44_1)) (df hp44_2) (df hp44_3) (df hp44_4)
  · rename_i hp45_0 hp45_1 hp45_2 hp45_3 hp45_4
    subst hA; exact hV.g45 (df hp45_0) (dt (nf hp45_1)) (df hp45_2) (df hp45_3) (df hp45_4)
  · rename_i hp46_0 hp46_1 hp46_2 hp46_3 hp46_4
    subst hA; exact hV.g46 (df hp46_0) (dt (nf hp46_1)) (df hp46_2) (df hp46_3) (df hp46_4)
  · rename_i hp47_0 hp47_1 hp47_2 hp47_3 hp47_4
    subst hA; exact hV.g47 (df hp47_0) (dt (nf hp47_1)) (df hp47_2) (df hp47_3) (df hp47_4)
  · rename_i hp48_0 hp48_1 hp48_2 hp48_3 hp48_4
    subst hA; exact hV.g48 (df hp48_0) (dt (nf hp48_1)) (df hp48_2) (df hp48_3) (df hp48_4)
  · rename_i hp49_0 hp49_1 hp49_2 hp49_3 hp49_4
    subst hA; exact hV.g49 (df hp49_0) (dt (nf hp49_1)) (df hp49_2) (df hp49_3) (df hp49_4)
  · rename_i hp50_0 hp50_1 hp50_2 hp50_3 hp50_4
    subst hA; exact hV.g50 (df hp50_0) (dt (nf hp50_1)) (df hp50_2) (df hp50_3) (df hp50_4)
  · rename_i hp51_0 hp51_1 hp51_2 hp51_3 hp51_4
    subst hA; exact hV.g51 (df hp51_0) (dt (nf hp51_1)) (df hp51_2) (df hp51_3) (df hp51_4)
  · rename_i hp52_0 hp52_1 hp52_2 hp52_3 hp52_4
    subst hA; exact hV.g52 (df hp52_0) (dt (nf hp52_1)) (df hp52_2) (df hp52_3) (df hp52_4)
  · rename_i hp53_0 hp53_1 hp53_2 hp53_3 hp53_4
    subst hA; exact hV.g53 (df hp53_0) (dt (nf hp53_1)) (df hp53_2) (df hp53_3) (df hp53_4)
end HX

namespace HX
open Go Go.Proofs CX
set_option maxHeartbeats 4000000 in
set_option maxRecDepth 100000 in
theorem walk24 {ro A pre fn} (hE : EnvOk ⟨A, (cxE ro), ksF, sigL [(13, ⟨[(true, [.int .i64, .int .i64])], [(false, [.int .i64])], false⟩)], pre, fn⟩) {P : List (List D) → Prop} {res : List (List D) → Nat → Nat → D}
    (hv : ∀ (a0_0 : Int) (a0_1 : Int) (a1 : Int), P [[.i a0_0, .i a0_1], [.i a1]] → V24 pre fn a0_0 a0_1 a1 (res [[.i a0_0, .i a0_1], [.i a1]]) ) :
    PureC (cxE ro) 24 ⟨[(true, [.int .i64, .int .i64]), (false, [.int .i64])], [(true, [.int .i64, .int .i64]), (false, [.int .i64])], false⟩ P res := by
  have hA := hE.A
  simp only [] at hA
  have hinl : ∀ f fn, inlL [] f = some fn → (cxE ro).fn f = some fn ∧ (cxE ro).ext f = none := Inls.ok (by repeat (first | exact .nil | refine .cons rfl rfl ?_))
  refine PureC.of_vc hE hinl 6 (f := 24) (fn := Tryz.f24) ⟨rfl, rfl⟩ ?_
  intro a0_0 a0_1 a1 hP
  obtain ⟨R, hR⟩ : ∃ R, res [[.i a0_0, .i a0_1], [.i a1]] = R := ⟨_, rfl⟩
  rw [hR]
  have hV := hv a0_0 a0_1 a1  hP
  rw [hR] at hV
  clear hR hP hv
  cbv
  repeat' (first | (refine Br.mk (fun _ => ?_) (fun _ => ?_) <;> cbv) | (refine NilB.mk (fun _ => ?_) ?_ <;> cbv) | refine And.intro ?_ ?_ | exact True.intro)
  · subst hA; exact hV.g0
  · rename_i hp1_0
    subst hA; exact hV.g1 (df (nt hp1_0))
  · rename_i hp2_0
    subst hA; exact hV.g2 (df (nt hp2_0))
  · rename_i hp3_0
    subst hA; exact hV.g3 (df (nt hp3_0))
  · rename_i hp4_0
    subst hA; exact hV.g4 (dt (nf hp4_0))
  · rename_i hp5_0
    subst hA; exact hV.g5 (dt (nf hp5_0))
  · rename_i hp6_0
    subst hA; exact hV.g6 (dt (nf hp6_0))
  · rename_i hp7_0 hp7_1
    subst hA; exact hV.g7 (dt (nf hp7_0)) (df (nt hp7_1))
  · rename_i hp8_0 hp8_1
    subst hA; exact hV.g8 (dt (nf hp8_0)) (df (nt hp8_1))
  · rename_i hp9_0 hp9_1
    subst hA; exact hV.g9 (dt (nf hp9_0)) (df (nt hp9_1))
  · rename_i hp10_0 hp10_1 hp10_2
    subst hA; exact hV.g10 (dt (nf hp10_0)) (dt (nf hp10_1)) (dt hp10_2)
  · rename_i hp11_0 hp11_1 hp11_2
    subst hA; exact hV.g11 (dt (nf hp11_0)) (dt (nf hp11_1)) (dt hp11_2)
  · rename_i hp12_0 hp12_1 hp12_2
    subst hA; exact hV.g12 (dt (nf hp12_0)) (dt (nf hp12_1)) (dt hp12_2)
  · rename_i hp13_0 hp13_1 hp13_2 hp13_3
    subst hA; exact hV.g13 (dt (nf hp13_0)) (dt (nf hp13_1)) (df hp13_2) (dt hp13_3)
  · rename_i hp14_0 hp14_1 hp14_2 hp14_3
    subst hA; exact hV.g14 (dt (nf hp14_0)) (dt (nf hp14_1)) (df hp14_2) (dt hp14_3)
  · rename_i hp15_0 hp15_1 hp15_2 hp15_3
    subst hA; exact hV.g15 (dt (nf hp15_0)) (dt (nf hp15_1)) (df hp15_2) (dt hp15_3)
  · rename_i hp16_0 hp16_1 hp16_2 hp16_3
    subst hA; exact hV.g16 (dt (nf hp16_0)) (dt (nf hp16_1)) (df hp16_2) (df hp16_3)
  · rename_i hp17_0 hp17_1 hp17_2 hp17_3
    subst hA; exact hV.g17 (dt (nf hp17_0)) (dt (nf hp17_1)) (df hp17_2) (df hp17_3)
  · rename_i hp18_0 hp18_1 hp18_2 hp18_3
    subst hA; exact hV.g18 (dt (nf hp18_0)) (dt (nf hp18_1)) (df hp18_2) (df hp18_3)
end HX

namespace HX
open Go Go.Proofs CX
set_option maxHeartbeats 4000000 in
set_option maxRecDepth 100000 in
theorem walk25 {ro A pre fn} (hE : EnvOk ⟨A, (cxE ro), ksF, sigL [(14, ⟨[(true, [.int .i64, .int .i64])], [(false, [.int .i64])], false⟩)], pre, fn⟩) {P : List (List D) → Prop} {res : List (List D) → Nat → Nat → D}
    (hv : ∀ (a0_0 : Int) (a0_1 : Int) (a1 : Int), P [[.i a0_0, .i a0_1], [.i a1]] → V25 pre fn a0_0 a0_1 a1 (res [[.i a0_0, .i a0_1], [.i a1]]) ) :
    PureC (cxE ro) 25 ⟨[(true, [.int .i64, .int .i64]), (false, [.int .i64])], [(true, [.int .i64, .int .i64]), (false, [.int .i64])], false⟩ P res := by
  have hA := hE.A
  simp only [] at hA
  have hinl : ∀ f fn, inlL [] f = some fn → (cxE ro).fn f = some fn ∧ (cxE ro).ext f = none := Inls.ok (by repeat (first | exact .nil | refine .cons rfl rfl ?_))
  refine PureC.of_vc hE hinl 6 (f := 25) (fn := Tryz.f25) ⟨rfl, rfl⟩ ?_
  intro a0_0 a0_1 a1 hP
  obtain ⟨R, hR⟩ : ∃ R, res [[.i a0_0, .i a0_1], [.i a1]] = R := ⟨_, rfl⟩
  rw [hR]
  have hV := hv a0_0 a0_1 a1  hP
  rw [hR] at hV
  clear hR hP hv
  cbv
  repeat' (first | (refine Br.mk (fun _ => ?_) (fun _ => ?_) <;> cbv) | (refine NilB.mk (fun _ => ?_) ?_ <;> cbv) | refine And.intro ?_ ?_ | exact True.intro)
  · subst hA; exact hV.g0
  · rename_i hp1_0
    subst hA; exact hV.g1 (df (nt hp1_0))
  · rename_i hp2_0
    subst hA; exact hV.g2 (df (nt hp2_0))
  · rename_i hp3_0
    subst hA; exact hV.g3 (df (nt hp3_0))
  · rename_i hp4_0 hp4_1
    subst hA; exact hV.g4 (dt (nf hp4_0)) (dt hp4_1)
  · rename_i hp5_0 hp5_1
    subst hA; exact hV.g5 (dt (nf hp5_0)) (dt hp5_1)
  · rename_i hp6_0 hp6_1
    subst hA; exact hV.g6 (dt (nf hp6_0)) (dt hp6_1)
  · rename_i hp7_0 hp7_1 hp7_2
    subst hA; exact hV.g7 (dt (nf hp7_0)) (df hp7_1) (dt hp7_2)
  · rename_i hp8_0 hp8_1 hp8_2
    subst hA; exact hV.g8 (dt (nf hp8_0)) (df hp8_1) (dt hp8_2)
  · rename_i hp9_0 hp9_1 hp9_2
    subst hA; exact hV.g9 (dt (nf hp9_0)) (df hp9_1) (dt hp9_2)
  · rename_i hp10_0 hp10_1 hp10_2
    subst hA; exact hV.g10 (dt (nf hp10_0)) (df hp10_1) (df hp10_2)
  · rename_i hp11_0 hp11_1 hp11_2
    subst hA; exact hV.g11 (dt (nf hp11_0)) (df hp11_1) (df hp11_2)
  · rename_i hp12_0 hp12_1 hp12_2
    subst hA; exact hV.g12 (dt (nf hp12_0)) (df hp12_1) (df hp12_2)
  · rename_i hp13_0 hp13_1 hp13_2 hp13_3
    subst hA; exact hV.g13 (dt (nf hp13_0)) (df hp13_1) (df hp13_2) (df (nt hp13_3))
  · rename_i hp14_0 hp14_1 hp14_2 hp14_3
    subst hA; exact hV.g14 (dt (nf hp14_0)) (df hp14_1) (df hp14_2) (df (nt hp14_3))
  · rename_i hp15_0 hp15_1 hp15_2 hp15_3
    subst hA; exact hV.g15 (dt (nf hp15_0)) (df hp15_1) (df hp15_2) (df (nt hp15_3))
  · rename_i hp16_0 hp16_1 hp16_2 hp16_3
    subst hA; exact hV.g16 (dt (nf hp16_0)) (df hp16_1) (df hp16_2) (dt (nf hp16_3))
  · rename_i hp17_0 hp17_1 hp17_2 hp17_3
    subst hA; exact hV.g17 (dt (nf hp17_0)) (df hp17_1) (df hp17_2) (dt (nf hp17_3))
  · rename_i hp18_0 hp18_1 hp18_2 hp18_3
    subst hA; exact hV.g18 (dt (nf hp18_0)) (df hp18_1) (df hp18_2) (dt (nf hp18_3))
end HX

namespace HX
open Go Go.Proofs CX
abbrev tru : List (List D) → Prop := fun _ => True
def r11 : List (List D) → Nat → Nat → D
  | [[.i a, .i _]], _, 0 => .i a
  | [[.i _, .i b]], _, _ => .i b
  | _, _, _ => .nil
def r14 : List (List D) → Nat → Nat → D
  | [[.i a, .i b]], _, _ => .i (crE a b)
  | _, _, _ => .nil
noncomputable def r48 : List (List D) → Nat → Nat → D
  | [[.l l]], _, _ => .i (allE l)
  | _, _, _ => .nil
def r53 : List (List D) → Nat → Nat → D
  | [[.l l]], _, 0 => .i (sB l)
  | [[.l l]], _, _ => .i (sR l)
  | _, _, _ => .nil
def p53 : List (List D) → Prop
  | [[.l l]] => okC l ∧ l.length ≤ 1000000
  | _ => False
noncomputable def r20 : List (List D) → Nat → Nat → D
  | [[.l l]], 0, 0 => .i (sumB l)
  | [[.l l]], 0, _ => .i (sumR l)
  | [[.l l]], _, _ => .i (sumE l)
  | _, _, _ => .nil
def p20 : List (List D) → Prop
  | [[.l l]] => l.length ≤ 1000000
  | _ => False
def r22 : List (List D) → Nat → Nat → D
  | [[.i b, .i r], [.i c, .i s]], 0, _ => .i (wtW b r c s)
  | [[.i b, .i r], [.i c, .i s]], 1, _ => .i (wtP b r c s)
  | [[.i b, .i r], [.i c, .i s]], _, _ => .i (wtE b r c s)
  | _, _, _ => .nil
def r24 : List (List D) → Nat → Nat → D
  | [[.i b, .i r], [.i w]], 0, 0 => .i (afB b r w)
  | [[.i b, .i r], [.i w]], 0, _ => .i (afR b r w)
  | [[.i b, .i r], [.i w]], _, _ => .i (afE b r w)
  | _, _, _ => .nil
noncomputable def c11 : Ctr := ⟨11, ⟨[(true, [.int .i64, .int .i64])], [(true, [.int .i64, .int .i64])], false⟩, tru, r11⟩
noncomputable def c14 : Ctr := ⟨14, ⟨[(true, [.int .i64, .int .i64])], [(false, [.int .i64])], false⟩, tru, r14⟩
noncomputable def c48 : Ctr := ⟨48, ⟨[(false, [.sl [.int .i64, .int .i64]])], [(false, [.int .i64])], false⟩, tru, r48⟩
noncomputable def c13 : Ctr := ⟨13, ⟨[(true, [.int .i64, .int .i64])], [(false, [.int .i64])], false⟩, tru, r14⟩
noncomputable def c53 : Ctr := ⟨53, ⟨[(false, [.sl [.int .i64, .int .i64]])], [(true, [.int .i64, .int .i64])], false⟩, p53, r53⟩
noncomputable def c20 : Ctr := ⟨20, ⟨[(false, [.sl [.int .i64, .int .i64]])], [(true, [.int .i64, .int .i64]), (false, [.int .i64])], false⟩, p20, r20⟩
noncomputable def c21 : Ctr := ⟨21, ⟨[(false, [.sl [.int .i64, .int .i64]])], [(true, [.int .i64, .int .i64]), (false, [.int .i64])], false⟩, p20, r20⟩
noncomputable def c22 : Ctr := ⟨22, ⟨[(true, [.int .i64, .int .i64]), (true, [.int .i64, .int .i64])], [(false, [.int .i64]), (false, [.int .i64]), (false, [.int .i64])], false⟩, tru, r22⟩
noncomputable def c23 : Ctr := ⟨23, ⟨[(true, [.int .i64, .int .i64]), (true, [.int .i64, .int .i64])], [(false, [.int .i64]), (false, [.int .i64]), (false, [.int .i64])], false⟩, tru, r22⟩
noncomputable def c24 : Ctr := ⟨24, ⟨[(true, [.int .i64, .int .i64]), (false, [.int .i64])], [(true, [.int .i64, .int .i64]), (false, [.int .i64])], false⟩, tru, r24⟩
noncomputable def c25 : Ctr := ⟨25, ⟨[(true, [.int .i64, .int .i64]), (false, [.int .i64])], [(true, [.int .i64, .int .i64]), (false, [.int .i64])], false⟩, tru, r24⟩
noncomputable def c9 : Ctr := ⟨9, ⟨[], [(false, [.bool])], false⟩, tru, (fun _ _ _ => .b true)⟩
section
variable (ro : Addr → Option V)
theorem k11 : PureC (cxE ro) c11.f c11.sg c11.pre c11.res := walk11 (envL (l := []) .nil) fun _ _ _ => law11 rfl rfl
theorem k14 : PureC (cxE ro) c14.f c14.sg c14.pre c14.res := walk14 (envL (l := []) .nil) fun _ _ _ => law14 rfl
theorem k48 : PureC (cxE ro) c48.f c48.sg c48.pre c48.res := walk48 (envL (l := []) .nil) fun _ ha _ => ⟨_, _, law48 ha.2 rfl⟩
theorem k13 : PureC (cxE ro) c13.f c13.sg c13.pre c13.res := walk13 (envL (l := [c48]) (.cons (k48 ro) .nil)) fun _ _ _ => law13 (fun _ => trivial) (fun _ => rfl) rfl
theorem k53 : PureC (cxE ro) c53.f c53.sg c53.pre c53.res := walk53 (envL (l := []) .nil) fun _ _ h => ⟨_, _, law53 h.1 h.2 rfl rfl⟩
theorem k20 : PureC (cxE ro) c20.f c20.sg c20.pre c20.res := walk20 (envL (l := [c48, c53, c13]) (.cons (k48 ro) (.cons (k53 ro) (.cons (k13 ro) .nil)))) fun _ _ h => law20 (fun _ => trivial) (fun _ => rfl) (fun _ => trivial) (fun _ _ => rfl) (fun _ h1 h2 => ⟨h1, h2⟩) (fun _ => rfl) (fun _ => rfl) h rfl rfl rfl
theorem k21 : PureC (cxE ro) c21.f c21.sg c21.pre c21.res := walk21 (envL (l := [c14]) (.cons (k14 ro) .nil)) fun _ _ h => ⟨_, _, _, _, law21 (fun _ => trivial) (fun _ _ => rfl) h rfl rfl rfl⟩
theorem k22 : PureC (cxE ro) c22.f c22.sg c22.pre c22.res := walk22 (envL (l := [c48, c53]) (.cons (k48 ro) (.cons (k53 ro) .nil))) fun _ _ _ _ _ => law22 (fun _ => trivial) (fun _ => rfl) (fun _ h1 h2 => ⟨h1, h2⟩) (fun _ => rfl) (fun _ => rfl) rfl rfl rfl
theorem k23 : PureC (cxE ro) c23.f c23.sg c23.pre c23.res := walk23 (envL (l := [c14]) (.cons (k14 ro) .nil)) fun _ _ _ _ _ => law23 (fun _ => trivial) (fun _ _ => rfl) rfl rfl rfl
theorem k24 : PureC (cxE ro) c24.f c24.sg c24.pre c24.res := walk24 (envL (l := [c13]) (.cons (k13 ro) .nil)) fun _ _ _ _ => law24 (fun _ => trivial) (fun _ _ => rfl) rfl rfl rfl
theorem k25 : PureC (cxE ro) c25.f c25.sg c25.pre c25.res := walk25 (envL (l := [c14]) (.cons (k14 ro) .nil)) fun _ _ _ _ => law25 (fun _ => trivial) (fun _ _ => rfl) rfl rfl rfl
theorem k9 : PureC (cxE ro) c9.f c9.sg c9.pre c9.res := works_pure
end
noncomputable def l4 : List Ctr := [c11, c20, c21, c22, c23, c24, c25, c9]
theorem k_l4 (ro : Addr → Option V) : Ctrs (cxE ro) l4 := (.cons (k11 ro) (.cons (k20 ro) (.cons (k21 ro) (.cons (k22 ro) (.cons (k23 ro) (.cons (k24 ro) (.cons (k25 ro) (.cons (k9 ro) .nil))))))))
end HX

namespace HX
open Go Go.Proofs CX
theorem law4' {a0 : Rows} (ha0 : ShR [.int .i64, .int .i64] a0) {b r c s w : Int} : ∃ I0 m0, V4 (preOf l4) (resOf l4) a0 b r c s w (fun _ _ => .b true) I0 m0 := by
  refine ⟨_, _, law4 trivial rfl (fun _ => trivial) (fun _ _ => rfl) (fun _ _ => rfl) (fun _ h => h) (fun _ h => h) (fun _ => rfl) (fun _ => trivial) (fun _ => trivial) (fun _ => rfl) (fun _ => trivial) (fun _ => trivial) (fun _ => rfl) (fun a b w h => ?_) ha0 rfl⟩
  have h : afE a b w ≠ 0 := h
  refine ⟨?_, ?_⟩
  · show afB a b w = 0
    rw [afB, if_neg h]
  · show afR a b w = 0
    rw [afR, if_neg h]
end HX

namespace Go.Proofs.YtlijpmeeldoofaaGreat.calcWaits
open Go.ChangeShapes Go.WideShapes Go.ChangeAt Go.RowKit HX

def ps : List (Bool × List Kd) := [(false, [.sl [.int .i64, .int .i64]]), (true, [.int .i64, .int .i64]), (true, [.int .i64, .int .i64]), (false, [.int .i64])]
theorem law (ro : Addr → Option CX.V) : PureC0 (cxE ro) 4 ⟨ps, [(false, [.bool])], false⟩ (RngAll ps) trueRes := walk4 (envL (l := l4) (k_l4 ro)) fun _ _ _ _ _ _ ha _ => law4' ha

theorem lenN {α β : Type} {F : List α → β} {G : List α → β} (h : ∀ a b c d, F [a, b, c, d] = G [a, b, c, d]) : ∀ ds : List α, ds.length = 4 → F ds = G ds
  | [a, b, c, d], _ => h a b c d

set_option maxRecDepth 100000 in
set_option maxHeartbeats 400000 in
theorem lifted (os : Os) (started : os.Started) (H : Type) (enc : TypeId × Value → H) :
    ReturnsInHanded {} Tryz.checked os 4 .any (Rows.calcWaitsSpec.pre6 enc Tryz.prog Tryz.f4 Rows.calcWaitsRow.domain false) (Rows.calcWaitsSpec.post enc Tryz.prog Tryz.f4 false true false false) := by
  refine returnsInHanded_of_change (C := Tryz.checked) own started (by kernel_rfl) Tryz.func4
    (ChangeSpec.witness6 (enc := enc) (C := Tryz.checked) false ⟨#[], #[.slice none 0 0, .agg #[.int .i64 0, .int .i64 0], .agg #[.int .i64 0, .int .i64 0], .int .i64 0], []⟩ 8 (by kernel_rfl) (by kernel_rfl) (by kernel_rfl) (by kernel_rfl)) ?_
  intro W base args ds gs before hval hW _ _
  exact said (f := Tryz.f4) (s := Rows.calcWaitsSpec) (n := 8) (tb := 4) cxE_ok law (by kernel_rfl) laid (by kernel_rfl) rfl Tryz.underlying4
    (lenN (F := Rows.calcWaitsSpec.fn H) (G := fun ds => ⟨[.lit (.bool true)], ds, []⟩) fun _ _ _ _ => rfl) rfl W base args ds gs before hval hW

theorem holds : Rows.CalcWaitsSaid :=
  OpenClaim.holds_of_wide 4 Tryz.f4 rfl rfl rfl rfl rfl rfl rfl ⟨rfl, rfl, rfl, rfl, rfl⟩ rfl rfl rfl rfl rfl (by kernel_rfl) Tryz.func4 (by kernel_rfl)
    (of_decide_eq_true (by kernel_rfl)) (by unfold Func.isWrapper; first | (rw [if_pos (by decide +kernel)]; kernel_rfl) | (rw [if_neg (by decide +kernel)]; exact ⟨rfl, rfl⟩))
    (fun os started H enc _ => lifted os started H enc)
end Go.Proofs.YtlijpmeeldoofaaGreat.calcWaits
