/-
  CodeDecides: for all threshold networks, inputs, values and ticks, the function returns true, and its arguments read as they did.
-/
import Derived.Test.YtlgaegbommfdmaaGreatCodeDecides7
import Derived.Test.YtlgaegbommfdmaaGreatRows
set_option linter.all false
namespace HX
open Go Go.Proofs CX
set_option maxHeartbeats 4000000 in
set_option maxRecDepth 100000 in
theorem walk67 {ro A pre fn} (hE : EnvOk ⟨A, (cxE ro), ksF, sigL [], pre, fn⟩) {P : List (List D) → Prop} {res : List (List D) → Nat → Nat → D}
    (hv : ∀ (a0 : Rows) (a1 : Rows), ShR [.int .i64] a0 → ShR [.bool] a1 → P [[.l a0], [.l a1], [.nil]] → ∃ (I0 : Int → Int → Prop) (m0 : Int → Int → Nat), V67 a0 a1 (res [[.l a0], [.l a1], [.nil]]) I0 m0) :
    PureC (cxE ro) 67 ⟨[(false, [.sl [.int .i64]]), (false, [.sl [.bool]]), (false, [.fnc 66])], [(false, [.int .i64])], false⟩ P res := by
  have hA := hE.A
  simp only [] at hA
  have hinl : ∀ f fn, inlL [(66, Tryz.f66)] f = some fn → (cxE ro).fn f = some fn ∧ (cxE ro).ext f = none := Inls.ok (by repeat (first | exact .nil | refine .cons rfl rfl ?_))
  refine PureC.of_vc hE hinl 6 (f := 67) (fn := Tryz.f67) ⟨rfl, rfl⟩ ?_
  intro a0 ha0 a1 ha1 hP
  obtain ⟨R, hR⟩ : ∃ R, res [[.l a0], [.l a1], [.nil]] = R := ⟨_, rfl⟩
  rw [hR]
  obtain ⟨I0, m0, hV⟩ := hv a0 a1 ha0 ha1 hP
  rw [hR] at hV
  clear hR hP hv
  cbv
  repeat' (first | (refine Br.mk (fun _ => ?_) (fun _ => ?_) <;> cbv) | (refine NilB.mk (fun _ => ?_) ?_ <;> cbv) | refine And.intro ?_ ?_ | exact True.intro)
  · refine Leaf.gen fun σz hσz => ?_
    refine loopB hE hinl 6 [] [] [] (fun x : Int × Int => [.i x.1, .i x.2]) (fun x => I0 x.1 x.2) (fun x => m0 x.1 x.2) (0, 0) (by subst hA; exact hV.i0) ?_ ?_ <;> subst hσz
    · clear hE hinl hV; cbv; (try (repeat' (first | exact True.intro | rfl | assumption | apply And.intro)))
    · intro ⟨x0_0, x0_1⟩ hI0 K0 hK0
      cbv
      repeat' (first | (refine Br.mk (fun _ => ?_) (fun _ => ?_) <;> cbv) | (refine NilB.mk (fun _ => ?_) ?_ <;> cbv) | refine And.intro ?_ ?_ | exact True.intro)
      · rename_i hp1_0
        subst hA; exact hV.g1 _ _ hI0 (dt hp1_0)
      · rename_i hp2_0
        subst hA; exact hV.g2 _ _ hI0 (dt hp2_0)
      · rename_i hp3_0
        subst hA; exact hV.g1 _ _ hI0 (dt hp3_0)
      · rename_i hp4_0
        subst hA; exact hV.g4 _ _ hI0 (dt hp4_0)
      · rename_i hp5_0 hp5_1
        subst hA; exact hV.g5 _ _ hI0 (dt hp5_0) hp5_1
      · rename_i hp6_0 hp6_1
        subst hA; exact hV.g6 _ _ hI0 (dt hp6_0) hp6_1
      · rename_i hp7_0 hp7_1
        refine hK0 (A.add x0_0 (A.di (A.get a0 (A.toNat x0_1) 0)), A.add x0_1 1) _ ?_ ?_ ?_
        · subst hA; exact (hV.n7 _ _ hI0 (dt hp7_0) hp7_1).1
        · subst hA; exact (hV.n7 _ _ hI0 (dt hp7_0) hp7_1).2
        · clear hE hinl hV hK0; cbv; (try (repeat' (first | exact True.intro | rfl | assumption | apply And.intro)))
      · rename_i hp8_0 hp8_1
        subst hA; exact hV.g8 _ _ hI0 (dt hp8_0) hp8_1
      · rename_i hp9_0 hp9_1
        subst hA; exact hV.g9 _ _ hI0 (dt hp9_0) hp9_1
      · rename_i hp10_0 hp10_1
        refine hK0 (A.add x0_0 0, A.add x0_1 1) _ ?_ ?_ ?_
        · subst hA; exact (hV.n10 _ _ hI0 (dt hp10_0) hp10_1).1
        · subst hA; exact (hV.n10 _ _ hI0 (dt hp10_0) hp10_1).2
        · clear hE hinl hV hK0; cbv; (try (repeat' (first | exact True.intro | rfl | assumption | apply And.intro)))
      · rename_i hp11_0
        subst hA; exact hV.g11 _ _ hI0 (df hp11_0)
end HX

namespace HX
open Go Go.Proofs CX
set_option maxHeartbeats 4000000 in
set_option maxRecDepth 100000 in
theorem walk68 {ro A pre fn} (hE : EnvOk ⟨A, (cxE ro), ksF, sigL [], pre, fn⟩) {P : List (List D) → Prop} {res : List (List D) → Nat → Nat → D}
    (hv : ∀ (a0 : Int) (a1 : Rows), ShR [.sl [.sl [.int .i64]], .sl [.int .i64]] a1 → P [[.i a0], [.l a1]] → ∃ (I0 : Int → Int → Int → Prop) (m0 : Int → Int → Int → Nat) (I1 : Int → Int → Int → Int → Int → Prop) (m1 : Int → Int → Int → Int → Int → Nat) (I2 : Int → Int → Int → Int → Int → Int → Int → Prop) (m2 : Int → Int → Int → Int → Int → Int → Int → Nat) (I3 : Int → Int → Int → Int → Int → Int → Int → Int → Int → Prop) (m3 : Int → Int → Int → Int → Int → Int → Int → Int → Int → Nat), V68 a0 a1 (res [[.i a0], [.l a1]]) I0 m0 I1 m1 I2 m2 I3 m3) :
    PureC (cxE ro) 68 ⟨[(false, [.int .i64]), (false, [.sl [.sl [.sl [.int .i64]], .sl [.int .i64]]])], [(false, [.int .i64])], false⟩ P res := by
  have hA := hE.A
  simp only [] at hA
  have hinl : ∀ f fn, inlL [(52, Tryz.f52)] f = some fn → (cxE ro).fn f = some fn ∧ (cxE ro).ext f = none := Inls.ok (by repeat (first | exact .nil | refine .cons rfl rfl ?_))
  refine PureC.of_vc hE hinl 6 (f := 68) (fn := Tryz.f68) ⟨rfl, rfl⟩ ?_
  intro a0 a1 ha1 hP
  obtain ⟨R, hR⟩ : ∃ R, res [[.i a0], [.l a1]] = R := ⟨_, rfl⟩
  rw [hR]
  obtain ⟨I0, m0, I1, m1, I2, m2, I3, m3, hV⟩ := hv a0 a1 ha1 hP
  rw [hR] at hV
  clear hR hP hv
  cbv
  repeat' (first | (refine Br.mk (fun _ => ?_) (fun _ => ?_) <;> cbv) | (refine NilB.mk (fun _ => ?_) ?_ <;> cbv) | refine And.intro ?_ ?_ | exact True.intro)
  · rename_i hp0_0 hp0_1
    subst hA; exact hV.g0 (dt hp0_0) (df (nt hp0_1))
  · rename_i hp1_0 hp1_1 hp1_2 hp1_3
    subst hA; exact hV.g1 (dt hp1_0) (dt (nf hp1_1)) (dt hp1_2) (df (nt hp1_3))
  · rename_i hp2_0 hp2_1 hp2_2 hp2_3
    refine Leaf.gen fun σz hσz => ?_
    refine loopB hE hinl 6 [] [] [] (fun x : Int × Int × Int => [.i x.1, .i x.2.1, .i x.2.2]) (fun x => I0 x.1 x.2.1 x.2.2) (fun x => m0 x.1 x.2.1 x.2.2) (0, a0, 0) (by subst hA; exact hV.i0 (dt hp2_0) (dt (nf hp2_1)) (dt hp2_2) (dt (nf hp2_3))) ?_ ?_ <;> subst hσz
    · clear hE hinl hV; cbv; (try (repeat' (first | exact True.intro | rfl | assumption | apply And.intro)))
    · intro ⟨x0_0, x0_1, x0_2⟩ hI0 K0 hK0
      cbv
      repeat' (first | (refine Br.mk (fun _ => ?_) (fun _ => ?_) <;> cbv) | (refine NilB.mk (fun _ => ?_) ?_ <;> cbv) | refine And.intro ?_ ?_ | exact True.intro)
      · rename_i hp3_0
        subst hA; exact hV.g3 _ _ _ hI0 (dt hp2_0) (dt (nf hp2_1)) (dt hp2_2) (dt (nf hp2_3)) (dt hp3_0)
      · rename_i hp4_0
        subst hA; exact hV.g4 _ _ _ hI0 (dt hp2_0) (dt (nf hp2_1)) (dt hp2_2) (dt (nf hp2_3)) (dt hp4_0)
      · rename_i hp5_0 hp5_1 hp5_2
        subst hA; exact hV.g5 _ _ _ hI0 (dt hp2_0) (dt (nf hp2_1)) (dt hp2_2) (dt (nf hp2_3)) (dt hp5_0) (dt hp5_1) (df (nt hp5_2))
      · rename_i hp6_0 hp6_1 hp6_2
        subst hA; exact hV.g6 _ _ _ hI0 (dt hp2_0) (dt (nf hp2_1)) (dt hp2_2) (dt (nf hp2_3)) (dt hp6_0) (dt hp6_1) (dt (nf hp6_2))
      · rename_i hp7_0 hp7_1 hp7_2
        subst hA; exact hV.g7 _ _ _ hI0 (dt hp2_0) (dt (nf hp2_1)) (dt hp2_2) (dt (nf hp2_3)) (dt hp7_0) (dt hp7_1) (dt (nf hp7_2))
      · rename_i hp8_0 hp8_1 hp8_2 hp8_3
        subst hA; exact hV.g8 _ _ _ hI0 (dt hp2_0) (dt (nf hp2_1)) (dt hp2_2) (dt (nf hp2_3)) (dt hp8_0) (dt hp8_1) (dt (nf hp8_2)) (df (nt hp8_3))
      · rename_i hp9_0 hp9_1 hp9_2 hp9_3
        refine Leaf.gen fun σz hσz => ?_
        refine loopB hE hinl 6 [] [] [] (fun x : Int × Int => [.i x.1, .i x.2]) (fun x => I1 x0_0 x0_1 x0_2 x.1 x.2) (fun x => m1 x0_0 x0_1 x0_2 x.1 x.2) (x0_0, 0) (by subst hA; exact hV.i1 _ _ _ hI0 (dt hp2_0) (dt (nf hp2_1)) (dt hp2_2) (dt (nf hp2_3)) (dt hp9_0) (dt hp9_1) (dt (nf hp9_2)) (dt (nf hp9_3))) ?_ ?_ <;> subst hσz
        · clear hE hinl hV; cbv; (try (repeat' (first | exact True.intro | rfl | assumption | apply And.intro)))
        · intro ⟨x1_0, x1_1⟩ hI1 K1 hK1
          cbv
          repeat' (first | (refine Br.mk (fun _ => ?_) (fun _ => ?_) <;> cbv) | (refine NilB.mk (fun _ => ?_) ?_ <;> cbv) | refine And.intro ?_ ?_ | exact True.intro)
          · rename_i hp10_0
            subst hA; exact hV.g10 _ _ _ hI0 _ _ hI1 (dt hp2_0) (dt (nf hp2_1)) (dt hp2_2) (dt (nf hp2_3)) (dt hp9_0) (dt hp9_1) (dt (nf hp9_2)) (dt (nf hp9_3)) (dt hp10_0)
          · rename_i hp11_0
            subst hA; exact hV.g11 _ _ _ hI0 _ _ hI1 (dt hp2_0) (dt (nf hp2_1)) (dt hp2_2) (dt (nf hp2_3)) (dt hp9_0) (dt hp9_1) (dt (nf hp9_2)) (dt (nf hp9_3)) (dt hp11_0)
          · rename_i hp12_0
            subst hA; exact hV.g12 _ _ _ hI0 _ _ hI1 (dt hp2_0) (dt (nf hp2_1)) (dt hp2_2) (dt (nf hp2_3)) (dt hp9_0) (dt hp9_1) (dt (nf hp9_2)) (dt (nf hp9_3)) (dt hp12_0)
          · rename_i hp13_0
            subst hA; exact hV.g13 _ _ _ hI0 _ _ hI1 (dt hp2_0) (dt (nf hp2_1)) (dt hp2_2) (dt (nf hp2_3)) (dt hp9_0) (dt hp9_1) (dt (nf hp9_2)) (dt (nf hp9_3)) (dt hp13_0)
          · rename_i hp14_0 hp14_1
            subst hA; exact hV.g14 _ _ _ hI0 _ _ hI1 (dt hp2_0) (dt (nf hp2_1)) (dt hp2_2) (dt (nf hp2_3)) (dt hp9_0) (dt hp9_1) (dt (nf hp9_2)) (dt (nf hp9_3)) (dt hp14_0) (df (nt hp14_1))
          · rename_i hp15_0 hp15_1
            subst hA; exact hV.g15 _ _ _ hI0 _ _ hI1 (dt hp2_0) (dt (nf hp2_1)) (dt hp2_2) (dt (nf hp2_3)) (dt hp9_0) (dt hp9_1) (dt (nf hp9_2)) (dt (nf hp9_3)) (dt hp15_0) (dt (nf hp15_1))
          · rename_i hp16_0 hp16_1
            refine hK1 (x1_0, A.add x1_1 1) _ ?_ ?_ ?_
            · subst hA; exact (hV.n16 _ _ _ hI0 _ _ hI1 (dt hp2_0) (dt (nf hp2_1)) (dt hp2_2) (dt (nf hp2_3)) (dt hp9_0) (dt hp9_1) (dt (nf hp9_2)) (dt (nf hp9_3)) (dt hp16_0) (dt (nf hp16_1))).1
            · subst hA; exact (hV.n16 _ _ _ hI0 _ _ hI1 (dt hp2_0) (dt (nf hp2_1)) (dt hp2_2) (dt (nf hp2_3)) (dt hp9_0) (dt hp9_1) (dt (nf hp9_2)) (dt (nf hp9_3)) (dt hp16_0) (dt (nf hp16_1))).2
            · clear hE hinl hV hK1; cbv; (try (repeat' (first | exact True.intro | rfl | assumption | apply And.intro)))
          · rename_i hp17_0
            refine Leaf.gen fun σz hσz => ?_
            refine loopB hE hinl 6 [] [] [] (fun x : Int × Int => [.i x.1, .i x.2]) (fun x => I2 x0_0 x0_1 x0_2 x1_0 x1_1 x.1 x.2) (fun x => m2 x0_0 x0_1 x0_2 x1_0 x1_1 x.1 x.2) (x1_0, 0) (by subst hA; exact hV.i2 _ _ _ hI0 _ _ hI1 (dt hp2_0) (dt (nf hp2_1)) (dt hp2_2) (dt (nf hp2_3)) (dt hp9_0) (dt hp9_1) (dt (nf hp9_2)) (dt (nf hp9_3)) (df hp17_0)) ?_ ?_ <;> subst hσz
            · clear hE hinl hV; cbv; (try (repeat' (first | exact True.intro | rfl | assumption | apply And.intro)))
            · intro ⟨x2_0, x2_1⟩ hI2 K2 hK2
              cbv
              repeat' (first | (refine Br.mk (fun _ => ?_) (fun _ => ?_) <;> cbv) | (refine NilB.mk (fun _ => ?_) ?_ <;> cbv) | refine And.intro ?_ ?_ | exact True.intro)
              · rename_i hp18_0
                refine Leaf.gen fun σz hσz => ?_
                refine loopB hE hinl 6 [] [] [] (fun x : Int × Int => [.i x.1, .i x.2]) (fun x => I3 x0_0 x0_1 x0_2 x1_0 x1_1 x2_0 x2_1 x.1 x.2) (fun x => m3 x0_0 x0_1 x0_2 x1_0 x1_1 x2_0 x2_1 x.1 x.2) (x2_0, 0) (by subst hA; exact hV.i3 _ _ _ hI0 _ _ hI1 _ _ hI2 (dt hp2_0) (dt (nf hp2_1)) (dt hp2_2) (dt (nf hp2_3)) (dt hp9_0) (dt hp9_1) (dt (nf hp9_2)) (dt (nf hp9_3)) (df hp17_0) (dt hp18_0)) ?_ ?_ <;> subst hσz
                · clear hE hinl hV; cbv; (try (repeat' (first | exact True.intro | rfl | assumption | apply And.intro)))
                · intro ⟨x3_0, x3_1⟩ hI3 K3 hK3
                  cbv
                  repeat' (first | (refine Br.mk (fun _ => ?_) (fun _ => ?_) <;> cbv) | (refine NilB.mk (fun _ => ?_) ?_ <;> cbv) | refine And.intro ?_ ?_ | exact True.intro)
                  · rename_i hp19_0
                    subst hA; exact hV.g19 _ _ _ hI0 _ _ hI1 _ _ hI2 _ _ hI3 (dt hp2_0) (dt (nf hp2_1)) (dt hp2_2) (dt (nf hp2_3)) (dt hp9_0) (dt hp9_1) (dt (nf hp9_2)) (dt (nf hp9_3)) (df hp17_0) (dt hp18_0) (dt hp19_0)
                  · rename_i hp20_0
                    subst hA; exact hV.g20 _ _ _ hI0 _ _ hI1 _ _ hI2 _ _ hI3 (dt hp2_0) (dt (nf hp2_1)) (dt hp2_2) (dt (nf hp2_3)) (dt hp9_0) (dt hp9_1) (dt (nf hp9_2)) (dt (nf hp9_3)) (df hp17_0) (dt hp18_0) (dt hp20_0)
                  · rename_i hp21_0
                    subst hA; exact hV.g21 _ _ _ hI0 _ _ hI1 _ _ hI2 _ _ hI3 (dt hp2_0) (dt (nf hp2_1)) (dt hp2_2) (dt (nf hp2_3)) (dt hp9_0) (dt hp9_1) (dt (nf hp9_2)) (dt (nf hp9_3)) (df hp17_0) (dt hp18_0) (dt hp21_0)
                  · rename_i hp22_0
                    subst hA; exact hV.g22 _ _ _ hI0 _ _ hI1 _ _ hI2 _ _ hI3 (dt hp2_0) (dt (nf hp2_1)) (dt hp2_2) (dt (nf hp2_3)) (dt hp9_0) (dt hp9_1) (dt (nf hp9_2)) (dt (nf hp9_3)) (df hp17_0) (dt hp18_0) (dt hp22_0)
                  · rename_i hp23_0
                    subst hA; exact hV.g23 _ _ _ hI0 _ _ hI1 _ _ hI2 _ _ hI3 (dt hp2_0) (dt (nf hp2_1)) (dt hp2_2) (dt (nf hp2_3)) (dt hp9_0) (dt hp9_1) (dt (nf hp9_2)) (dt (nf hp9_3)) (df hp17_0) (dt hp18_0) (dt hp23_0)
                  · rename_i hp24_0
                    subst hA; exact hV.g24 _ _ _ hI0 _ _ hI1 _ _ hI2 _ _ hI3 (dt hp2_0) (dt (nf hp2_1)) (dt hp2_2) (dt (nf hp2_3)) (dt hp9_0) (dt hp9_1) (dt (nf hp9_2)) (dt (nf hp9_3)) (df hp17_0) (dt hp18_0) (dt hp24_0)
                  · rename_i hp25_0 hp25_1 hp25_2
                    subst hA; exact hV.g25 _ _ _ hI0 _ _ hI1 _ _ hI2 _ _ hI3 (dt hp2_0) (dt (nf hp2_1)) (dt hp2_2) (dt (nf hp2_3)) (dt hp9_0) (dt hp9_1) (dt (nf hp9_2)) (dt (nf hp9_3)) (df hp17_0) (dt hp18_0) (dt hp25_0) (dt hp25_1) (df (nt hp25_2))
                  · rename_i hp26_0 hp26_1 hp26_2
                    subst hA; exact hV.g26 _ _ _ hI0 _ _ hI1 _ _ hI2 _ _ hI3 (dt hp2_0) (dt (nf hp2_1)) (dt hp2_2) (dt (nf hp2_3)) (dt hp9_0) (dt hp9_1) (dt (nf hp9_2)) (dt (nf hp9_3)) (df hp17_0) (dt hp18_0) (dt hp26_0) (dt hp26_1) (dt (nf hp26_2))
                  · rename_i hp27_0 hp27_1 hp27_2
                    refine hK3 (x3_0, A.add x3_1 1) _ ?_ ?_ ?_
                    · subst hA; exact (hV.n27 _ _ _ hI0 _ _ hI1 _ _ hI2 _ _ hI3 (dt hp2_0) (dt (nf hp2_1)) (dt hp2_2) (dt (nf hp2_3)) (dt hp9_0) (dt hp9_1) (dt (nf hp9_2)) (dt (nf hp9_3)) (df hp17_0) (dt hp18_0) (dt hp27_0) (dt hp27_1) (dt (nf hp27_2))).1
                    · subst hA; exact (hV.n27 _ _ _ hI0 _ _ hI1 _ _ hI2 _ _ hI3 (dt hp2_0) (dt (nf hp2_1)) (dt hp2_2) (dt (nf hp2_3)) (dt hp9_0) (dt hp9_1) (dt (nf hp9_2)) (dt (nf hp9_3)) (df hp17_0) (dt hp18_0) (dt hp27_0) (dt hp27_1) (dt (nf hp27_2))).2
                    · clear hE hinl hV hK3; cbv; (try (repeat' (first | exact True.intro | rfl | assumption | apply And.intro)))
                  · rename_i hp28_0 hp28_1
                    subst hA; exact hV.g28 _ _ _ hI0 _ _ hI1 _ _ hI2 _ _ hI3 (dt hp2_0) (dt (nf hp2_1)) (dt hp2_2) (dt (nf hp2_3)) (dt hp9_0) (dt hp9_1) (dt (nf hp9_2)) (dt (nf hp9_3)) (df hp17_0) (dt hp18_0) (dt hp28_0) (df hp28_1)
                  · rename_i hp29_0
                    subst hA; exact hV.g29 _ _ _ hI0 _ _ hI1 _ _ hI2 _ _ hI3 (dt hp2_0) (dt (nf hp2_1)) (dt hp2_2) (dt (nf hp2_3)) (dt hp9_0) (dt hp9_1) (dt (nf hp9_2)) (dt (nf hp9_3)) (df hp17_0) (dt hp18_0) (df hp29_0)
                  · rename_i hp30_0
                    subst hA; exact hV.g30 _ _ _ hI0 _ _ hI1 _ _ hI2 _ _ hI3 (dt hp2_0) (dt (nf hp2_1)) (dt hp2_2) (dt (nf hp2_3)) (dt hp9_0) (dt hp9_1) (dt (nf hp9_2)) (dt (nf hp9_3)) (df hp17_0) (dt hp18_0) (df hp30_0)
                  · rename_i hp31_0
                    subst hA; exact hV.g31 _ _ _ hI0 _ _ hI1 _ _ hI2 _ _ hI3 (dt hp2_0) (dt (nf hp2_1)) (dt hp2_2) (dt (nf hp2_3)) (dt hp9_0) (dt hp9_1) (dt (nf hp9_2)) (dt (nf hp9_3)) (df hp17_0) (dt hp18_0) (df hp31_0)
                  · rename_i hp32_0
                    subst hA; exact hV.g32 _ _ _ hI0 _ _ hI1 _ _ hI2 _ _ hI3 (dt hp2_0) (dt (nf hp2_1)) (dt hp2_2) (dt (nf hp2_3)) (dt hp9_0) (dt hp9_1) (dt (nf hp9_2)) (dt (nf hp9_3)) (df hp17_0) (dt hp18_0) (df hp32_0)
                  · rename_i hp33_0 hp33_1 hp33_2
                    subst hA; exact hV.g33 _ _ _ hI0 _ _ hI1 _ _ hI2 _ _ hI3 (dt hp2_0) (dt (nf hp2_1)) (dt hp2_2) (dt (nf hp2_3)) (dt hp9_0) (dt hp9_1) (dt (nf hp9_2)) (dt (nf hp9_3)) (df hp17_0) (dt hp18_0) (df hp33_0) (dt hp33_1) (df (nt hp33_2))
                  · rename_i hp34_0 hp34_1 hp34_2
                    subst hA; exact hV.g34 _ _ _ hI0 _ _ hI1 _ _ hI2 _ _ hI3 (dt hp2_0) (dt (nf hp2_1)) (dt hp2_2) (dt (nf hp2_3)) (dt hp9_0) (dt hp9_1) (dt (nf hp9_2)) (dt (nf hp9_3)) (df hp17_0) (dt hp18_0) (df hp34_0) (dt hp34_1) (dt (nf hp34_2))
                  · rename_i hp35_0 hp35_1 hp35_2
                    refine hK2 (x3_0, A.add x2_1 1) _ ?_ ?_ ?_
                    · subst hA; exact (hV.n35 _ _ _ hI0 _ _ hI1 _ _ hI2 _ _ hI3 (dt hp2_0) (dt (nf hp2_1)) (dt hp2_2) (dt (nf hp2_3)) (dt hp9_0) (dt hp9_1) (dt (nf hp9_2)) (dt (nf hp9_3)) (df hp17_0) (dt hp18_0) (df hp35_0) (dt hp35_1) (dt (nf hp35_2))).1
                    · subst hA; exact (hV.n35 _ _ _ hI0 _ _ hI1 _ _ hI2 _ _ hI3 (dt hp2_0) (dt (nf hp2_1)) (dt hp2_2) (dt (nf hp2_3)) (dt hp9_0) (dt hp9_1) (dt (nf hp9_2)) (dt (nf hp9_3)) (df hp17_0) (dt hp18_0) (df hp35_0) (dt hp35_1) (dt (nf hp35_2))).2
                    · clear hE hinl hV hK2; cbv; (try (repeat' (first | exact True.intro | rfl | assumption | apply And.intro)))
                  · rename_i hp36_0 hp36_1
                    subst hA; exact hV.g36 _ _ _ hI0 _ _ hI1 _ _ hI2 _ _ hI3 (dt hp2_0) (dt (nf hp2_1)) (dt hp2_2) (dt (nf hp2_3)) (dt hp9_0) (dt hp9_1) (dt (nf hp9_2)) (dt (nf hp9_3)) (df hp17_0) (dt hp18_0) (df hp36_0) (df hp36_1)
              · rename_i hp37_0
                subst hA; exact hV.g37 _ _ _ hI0 _ _ hI1 _ _ hI2 (dt hp2_0) (dt (nf hp2_1)) (dt hp2_2) (dt (nf hp2_3)) (dt hp9_0) (dt hp9_1) (dt (nf hp9_2)) (dt (nf hp9_3)) (df hp17_0) (df hp37_0)
              · rename_i hp38_0
                refine hK0 (x2_0, A.nat (A.len (A.dl (A.get a1 (A.toNat x0_2) 0))), A.add x0_2 1) _ ?_ ?_ ?_
                · subst hA; exact (hV.n38 _ _ _ hI0 _ _ hI1 _ _ hI2 (dt hp2_0) (dt (nf hp2_1)) (dt hp2_2) (dt (nf hp2_3)) (dt hp9_0) (dt hp9_1) (dt (nf hp9_2)) (dt (nf hp9_3)) (df hp17_0) (df hp38_0)).1
                · subst hA; exact (hV.n38 _ _ _ hI0 _ _ hI1 _ _ hI2 (dt hp2_0) (dt (nf hp2_1)) (dt hp2_2) (dt (nf hp2_3)) (dt hp9_0) (dt hp9_1) (dt (nf hp9_2)) (dt (nf hp9_3)) (df hp17_0) (df hp38_0)).2
                · clear hE hinl hV hK0; cbv; (try (repeat' (first | exact True.intro | rfl | assumption | apply And.intro)))
      · rename_i hp39_0 hp39_1
        subst hA; exact hV.g39 _ _ _ hI0 (dt hp2_0) (dt (nf hp2_1)) (dt hp2_2) (dt (nf hp2_3)) (dt hp39_0) (df hp39_1)
      · rename_i hp40_0
        subst hA; exact hV.g40 _ _ _ hI0 (dt hp2_0) (dt (nf hp2_1)) (dt hp2_2) (dt (nf hp2_3)) (df hp40_0)
  · rename_i hp41_0 hp41_1 hp41_2
    subst hA; exact hV.g41 (dt hp41_0) (dt (nf hp41_1)) (df hp41_2)
  · rename_i hp42_0
    subst hA; exact hV.g42 (df hp42_0)
end HX

namespace HX
open Go Go.Proofs CX
set_option maxHeartbeats 4000000 in
set_option maxRecDepth 100000 in
theorem walk69 {ro A pre fn} (hE : EnvOk ⟨A, (cxE ro), ksF, sigL [], pre, fn⟩) {P : List (List D) → Prop} {res : List (List D) → Nat → Nat → D}
    (hv : ∀ (a0 : Rows), ShR [.sl [.sl [.int .i64]], .sl [.int .i64]] a0 → P [[.l a0], [.nil]] → ∃ (I0 : Rows → Int → Prop) (m0 : Rows → Int → Nat), V69 a0 (res [[.l a0], [.nil]]) I0 m0) :
    PureC (cxE ro) 69 ⟨[(false, [.sl [.sl [.sl [.int .i64]], .sl [.int .i64]]]), (false, [.fnc 64])], [(false, [.sl [.int .i64]])], false⟩ P res := by
  have hA := hE.A
  simp only [] at hA
  have hinl : ∀ f fn, inlL [(64, Tryz.f64)] f = some fn → (cxE ro).fn f = some fn ∧ (cxE ro).ext f = none := Inls.ok (by repeat (first | exact .nil | refine .cons rfl rfl ?_))
  refine PureC.of_vc hE hinl 6 (f := 69) (fn := Tryz.f69) ⟨rfl, rfl⟩ ?_
  intro a0 ha0 hP
  obtain ⟨R, hR⟩ : ∃ R, res [[.l a0], [.nil]] = R := ⟨_, rfl⟩
  rw [hR]
  obtain ⟨I0, m0, hV⟩ := hv a0 ha0 hP
  rw [hR] at hV
  clear hR hP hv
  cbv
  repeat' (first | (refine Br.mk (fun _ => ?_) (fun _ => ?_) <;> cbv) | (refine NilB.mk (fun _ => ?_) ?_ <;> cbv) | refine And.intro ?_ ?_ | exact True.intro)
  · refine Leaf.gen fun σz hσz => ?_
    refine loopB hE hinl 6 [] [] [] (fun x : Rows × Int => [.l x.1, .i x.2]) (fun x => I0 x.1 x.2) (fun x => m0 x.1 x.2) ([], 0) (by subst hA; exact hV.i0) ?_ ?_ <;> subst hσz
    · clear hE hinl hV; cbv; (try (repeat' (first | exact True.intro | rfl | assumption | apply And.intro)))
    · intro ⟨x0_0, x0_1⟩ hI0 K0 hK0
      cbv
      repeat' (first | (refine Br.mk (fun _ => ?_) (fun _ => ?_) <;> cbv) | (refine NilB.mk (fun _ => ?_) ?_ <;> cbv) | refine And.intro ?_ ?_ | exact True.intro)
      · rename_i hp1_0
        subst hA; exact hV.g1 _ _ hI0 (dt hp1_0)
      · rename_i hp2_0
        subst hA; exact hV.g2 _ _ hI0 (dt hp2_0)
      · rename_i hp3_0
        subst hA; exact hV.g3 _ _ hI0 (dt hp3_0)
      · rename_i hp4_0
        subst hA; exact hV.g4 _ _ hI0 (dt hp4_0)
      · rename_i hp5_0
        refine hK0 (A.app x0_0 [[D.i (A.nat (A.len (A.dl (A.get a0 (A.toNat x0_1) 0))))]], A.add x0_1 1) _ ?_ ?_ ?_
        · subst hA; exact (hV.n5 _ _ hI0 (dt hp5_0)).1
        · subst hA; exact (hV.n5 _ _ hI0 (dt hp5_0)).2
        · clear hE hinl hV hK0; cbv; (try (repeat' (first | exact True.intro | rfl | assumption | apply And.intro)))
      · rename_i hp6_0
        subst hA; exact hV.g6 _ _ hI0 (df hp6_0)
end HX

namespace HX
open Go Go.Proofs CX
set_option maxHeartbeats 4000000 in
set_option maxRecDepth 100000 in
theorem walk106 {ro A pre fn} (hE : EnvOk ⟨A, (cxE ro), ksF, sigL [], pre, fn⟩) {P : List (List D) → Prop} {res : List (List D) → Nat → Nat → D}
    (hv : ∀ (a0 : Int) (a1 : Int), P [[.i a0], [.i a1]] → V106 a0 a1 (res [[.i a0], [.i a1]]) ) :
    PureC (cxE ro) 106 ⟨[(false, [.int .u64]), (false, [.int .u64])], [(false, [.int .u64]), (false, [.int .u64])], false⟩ P res := by
  have hA := hE.A
  simp only [] at hA
  have hinl : ∀ f fn, inlL [(135, Tryz.f135), (136, Tryz.f136)] f = some fn → (cxE ro).fn f = some fn ∧ (cxE ro).ext f = none := Inls.ok (by repeat (first | exact .nil | refine .cons rfl rfl ?_))
  refine PureC.of_vc hE hinl 6 (f := 106) (fn := Tryz.f106) ⟨rfl, rfl⟩ ?_
  intro a0 a1 hP
  obtain ⟨R, hR⟩ : ∃ R, res [[.i a0], [.i a1]] = R := ⟨_, rfl⟩
  rw [hR]
  have hV := hv a0 a1  hP
  rw [hR] at hV
  clear hR hP hv
  cbv
  repeat' (first | (refine Br.mk (fun _ => ?_) (fun _ => ?_) <;> cbv) | (refine NilB.mk (fun _ => ?_) ?_ <;> cbv) | refine And.intro ?_ ?_ | exact True.intro)
  · subst hA; exact hV.g0
  · subst hA; exact hV.g0
  · subst hA; exact hV.g0
  · subst hA; exact hV.g0
  · subst hA; exact hV.g0
  · subst hA; exact hV.g5
  · subst hA; exact hV.g6
end HX

namespace HX
open Go Go.Proofs CX
set_option maxHeartbeats 4000000 in
set_option maxRecDepth 100000 in
theorem walk71 {ro A pre fn} (hE : EnvOk ⟨A, (cxE ro), ksF, sigL [(106, ⟨[(false, [.int .u64]), (false, [.int .u64])], [(false, [.int .u64]), (false, [.int .u64])], false⟩)], pre, fn⟩) {P : List (List D) → Prop} {res : List (List D) → Nat → Nat → D}
    (hv : ∀ (a0 : Rows) (a1 : Int), ShR [.int .i64, .int .i64, .int .i64, .int .i64, .int .i64, .int .i64, .int .i64, .int .i64] a0 → P [[.l a0], [.i a1]] → ∃ (I0 : Int → Rows → Prop) (m0 : Int → Rows → Nat), V71 pre fn a0 a1 (res [[.l a0], [.i a1]]) I0 m0) :
    PureC (cxE ro) 71 ⟨[(false, [.sl [.int .i64, .int .i64, .int .i64, .int .i64, .int .i64, .int .i64, .int .i64, .int .i64]]), (false, [.int .i64])], [(false, [.sl [.int .i64, .int .i64, .int .i64, .int .i64, .int .i64, .int .i64, .int .i64, .int .i64]])], false⟩ P res := by
  have hA := hE.A
  simp only [] at hA
  have hinl : ∀ f fn, inlL [] f = some fn → (cxE ro).fn f = some fn ∧ (cxE ro).ext f = none := Inls.ok (by repeat (first | exact .nil | refine .cons rfl rfl ?_))
  refine PureC.of_vc hE hinl 6 (f := 71) (fn := Tryz.f71) ⟨rfl, rfl⟩ ?_
  intro a0 ha0 a1 hP
  obtain ⟨R, hR⟩ : ∃ R, res [[.l a0], [.i a1]] = R := ⟨_, rfl⟩
  rw [hR]
  obtain ⟨I0, m0, hV⟩ := hv a0 a1 ha0 hP
  rw [hR] at hV
  clear hR hP hv
  cbv
  repeat' (first | (refine Br.mk (fun _ => ?_) (fun _ => ?_) <;> cbv) | (refine NilB.mk (fun _ => ?_) ?_ <;> cbv) | refine And.intro ?_ ?_ | exact True.intro)
  · rename_i hp0_0
    subst hA; exact (hV.g0 (dt hp0_0)).elim
  · rename_i hp1_0
    subst hA; exact hV.g1 (df hp1_0)
  · rename_i hp2_0 hp2_1
    subst hA; exact (hV.g2 (df hp2_0) (dt hp2_1)).elim
  · rename_i hp3_0 hp3_1 hp3_2
    subst hA; exact (hV.g3 (df hp3_0) (df hp3_1) (dt hp3_2)).elim
  · rename_i hp4_0 hp4_1 hp4_2
    subst hA; exact hV.g4 (df hp4_0) (df hp4_1) (df hp4_2)
  · rename_i hp5_0 hp5_1 hp5_2
    subst hA; exact hV.g5 (df hp5_0) (df hp5_1) (df hp5_2)
  · rename_i hp6_0 hp6_1 hp6_2
    subst hA; exact hV.g6 (df hp6_0) (df hp6_1) (df hp6_2)
  · rename_i hp7_0 hp7_1 hp7_2
    subst hA; exact hV.g7 (df hp7_0) (df hp7_1) (df hp7_2)
  · rename_i hp8_0 hp8_1 hp8_2
    subst hA; exact hV.g8 (df hp8_0) (df hp8_1) (df hp8_2)
  · rename_i hp9_0 hp9_1 hp9_2
    refine Leaf.gen fun σz hσz => ?_
    refine loopB hE hinl 6 [] [] [(2, [])] (fun x : Int × Rows => [.i x.1, .l x.2]) (fun x => I0 x.1 x.2) (fun x => m0 x.1 x.2) (A.min (A.nat (A.len a0)) (A.nat (A.len (A.rep (A.toNat (A.di (fn 106 [[D.i (A.wrap IntKind.u64 (A.nat (A.len a0)))], [D.i (A.wrap IntKind.u64 a1)]] 1 0))) [D.i 0, D.i 0, D.i 0, D.i 0, D.i 0, D.i 0, D.i 0, D.i 0]))), A.app (A.sub' (A.rep (A.toNat (A.di (fn 106 [[D.i (A.wrap IntKind.u64 (A.nat (A.len a0)))], [D.i (A.wrap IntKind.u64 a1)]] 1 0))) [D.i 0, D.i 0, D.i 0, D.i 0, D.i 0, D.i 0, D.i 0, D.i 0]) 0 0) (A.app (A.sub' a0 0 (A.toNat (A.min (A.nat (A.len a0)) (A.nat (A.len (A.rep (A.toNat (A.di (fn 106 [[D.i (A.wrap IntKind.u64 (A.nat (A.len a0)))], [D.i (A.wrap IntKind.u64 a1)]] 1 0))) [D.i 0, D.i 0, D.i 0, D.i 0, D.i 0, D.i 0, D.i 0, D.i 0])))))) (A.sub' (A.rep (A.toNat (A.di (fn 106 [[D.i (A.wrap IntKind.u64 (A.nat (A.len a0)))], [D.i (A.wrap IntKind.u64 a1)]] 1 0))) [D.i 0, D.i 0, D.i 0, D.i 0, D.i 0, D.i 0, D.i 0, D.i 0]) (A.nadd 0 (A.toNat (A.min (A.nat (A.len a0)) (A.nat (A.len (A.rep (A.toNat (A.di (fn 106 [[D.i (A.wrap IntKind.u64 (A.nat (A.len a0)))], [D.i (A.wrap IntKind.u64 a1)]] 1 0))) [D.i 0, D.i 0, D.i 0, D.i 0, D.i 0, D.i 0, D.i 0, D.i 0])))))) (A.nsub (A.len (A.rep (A.toNat (A.di (fn 106 [[D.i (A.wrap IntKind.u64 (A.nat (A.len a0)))], [D.i (A.wrap IntKind.u64 a1)]] 1 0))) [D.i 0, D.i 0, D.i 0, D.i 0, D.i 0, D.i 0, D.i 0, D.i 0])) (A.nadd 0 (A.toNat (A.min (A.nat (A.len a0)) (A.nat (A.len (A.rep (A.toNat (A.di (fn 106 [[D.i (A.wrap IntKind.u64 (A.nat (A.len a0)))], [D.i (A.wrap IntKind.u64 a1)]] 1 0))) [D.i 0, D.i 0, D.i 0, D.i 0, D.i 0, D.i 0, D.i 0, D.i 0])))))))))) (by subst hA; exact hV.i0 (df hp9_0) (df hp9_1) (df hp9_2)) ?_ ?_ <;> subst hσz
    · clear hE hinl hV; cbv; (try (repeat' (first | exact True.intro | rfl | assumption | apply And.intro)))
    · intro ⟨x0_0, x0_1⟩ hI0 K0 hK0
      cbv
      repeat' (first | (refine Br.mk (fun _ => ?_) (fun _ => ?_) <;> cbv) | (refine NilB.mk (fun _ => ?_) ?_ <;> cbv) | refine And.intro ?_ ?_ | exact True.intro)
      · rename_i hp10_0
        subst hA; exact hV.g10 _ _ hI0 (df hp9_0) (df hp9_1) (df hp9_2) (dt hp10_0)
      · rename_i hp11_0
        subst hA; exact hV.g11 _ _ hI0 (df hp9_0) (df hp9_1) (df hp9_2) (dt hp11_0)
      · rename_i hp12_0
        subst hA; exact hV.g10 _ _ hI0 (df hp9_0) (df hp9_1) (df hp9_2) (dt hp12_0)
      · rename_i hp13_0
        subst hA; exact hV.g11 _ _ hI0 (df hp9_0) (df hp9_1) (df hp9_2) (dt hp13_0)
      · rename_i hp14_0
        subst hA; exact hV.g14 _ _ hI0 (df hp9_0) (df hp9_1) (df hp9_2) (dt hp14_0)
      · rename_i hp15_0
        subst hA; exact hV.g15 _ _ hI0 (df hp9_0) (df hp9_1) (df hp9_2) (dt hp15_0)
      · rename_i hp16_0
        subst hA; exact hV.g16 _ _ hI0 (df hp9_0) (df hp9_1) (df hp9_2) (dt hp16_0)
      · rename_i hp17_0
        refine hK0 (A.add x0_0 (A.min (A.nat (A.len (A.sub' x0_1 0 (A.toNat x0_0)))) (A.nat (A.nsub (A.len x0_1) (A.toNat x0_0)))), A.app (A.sub' x0_1 0 (A.toNat x0_0)) (A.app (A.sub' (A.sub' x0_1 0 (A.toNat x0_0)) 0 (A.toNat (A.min (A.nat (A.len (A.sub' x0_1 0 (A.toNat x0_0)))) (A.nat (A.nsub (A.len x0_1) (A.toNat x0_0)))))) (A.sub' x0_1 (A.nadd (A.toNat x0_0) (A.toNat (A.min (A.nat (A.len (A.sub' x0_1 0 (A.toNat x0_0)))) (A.nat (A.nsub (A.len x0_1) (A.toNat x0_0)))))) (A.nsub (A.len x0_1) (A.nadd (A.toNat x0_0) (A.toNat (A.min (A.nat (A.len (A.sub' x0_1 0 (A.toNat x0_0)))) (A.nat (A.nsub (A.len x0_1) (A.toNat x0_0)))))))))) _ ?_ ?_ ?_
        · subst hA; exact (hV.n17 _ _ hI0 (df hp9_0) (df hp9_1) (df hp9_2) (dt hp17_0)).1
        · subst hA; exact (hV.n17 _ _ hI0 (df hp9_0) (df hp9_1) (df hp9_2) (dt hp17_0)).2
        · clear hE hinl hV hK0; cbv; (try (repeat' (first | exact True.intro | rfl | assumption | apply And.intro)))
      · rename_i hp18_0
        subst hA; exact hV.g18 _ _ hI0 (df hp9_0) (df hp9_1) (df hp9_2) (df hp18_0)
end HX

namespace HX
open Go Go.Proofs CX
set_option maxHeartbeats 4000000 in
set_option maxRecDepth 100000 in
theorem walk70 {ro A pre fn} (hE : EnvOk ⟨A, (cxE ro), ksF, sigL [], pre, fn⟩) {P : List (List D) → Prop} {res : List (List D) → Nat → Nat → D}
    (hv : ∀ (a0 : Int) (a1 : Int) (a2 : Int), P [[.i a0], [.i a1], [.i a2]] → V70 a0 a1 a2 (res [[.i a0], [.i a1], [.i a2]]) ) :
    PureC (cxE ro) 70 ⟨[(false, [.int .i64]), (false, [.pt (.int .i64)]), (false, [.pt (.int .i64)])], [(false, [.int .i64])], false⟩ P res := by
  have hA := hE.A
  simp only [] at hA
  have hinl : ∀ f fn, inlL [] f = some fn → (cxE ro).fn f = some fn ∧ (cxE ro).ext f = none := Inls.ok (by repeat (first | exact .nil | refine .cons rfl rfl ?_))
  refine PureC.of_vc hE hinl 6 (f := 70) (fn := Tryz.f70) ⟨rfl, rfl⟩ ?_
  intro a0 a1 a2 hP
  obtain ⟨R, hR⟩ : ∃ R, res [[.i a0], [.i a1], [.i a2]] = R := ⟨_, rfl⟩
  rw [hR]
  have hV := hv a0 a1 a2  hP
  rw [hR] at hV
  clear hR hP hv
  cbv
  repeat' (first | (refine Br.mk (fun _ => ?_) (fun _ => ?_) <;> cbv) | (refine NilB.mk (fun _ => ?_) ?_ <;> cbv) | refine And.intro ?_ ?_ | exact True.intro)
  · rename_i hp0_0
    subst hA; exact hV.g0 (dt hp0_0)
  · rename_i hp1_0
    subst hA; exact hV.g1 (dt hp1_0)
  · rename_i hp2_0
    subst hA; exact hV.g2 (df hp2_0)
  · rename_i hp3_0
    subst hA; exact hV.g3 (df hp3_0)
  · rename_i hp4_0
    subst hA; exact hV.g4 (df hp4_0)
end HX

namespace HX
open Go Go.Proofs CX
set_option maxHeartbeats 4000000 in
set_option maxRecDepth 100000 in
theorem walk72 {ro A pre fn} (hE : EnvOk ⟨A, (cxE ro), ksF, sigL [], pre, fn⟩) {P : List (List D) → Prop} {res : List (List D) → Nat → Nat → D}
    (hv : P [] → V72  (res []) ) :
    PureC (cxE ro) 72 ⟨[], [(true, [.int .i64, .int .i64, .int .i64, .int .i64, .int .i64, .int .i64, .int .i64, .int .i64])], false⟩ P res := by
  have hA := hE.A
  simp only [] at hA
  have hinl : ∀ f fn, inlL [] f = some fn → (cxE ro).fn f = some fn ∧ (cxE ro).ext f = none := Inls.ok (by repeat (first | exact .nil | refine .cons rfl rfl ?_))
  refine PureC.of_vc hE hinl 6 (f := 72) (fn := Tryz.f72) ⟨rfl, rfl⟩ ?_
  intro  hP
  obtain ⟨R, hR⟩ : ∃ R, res [] = R := ⟨_, rfl⟩
  rw [hR]
  have hV := hv   hP
  rw [hR] at hV
  clear hR hP hv
  cbv
  repeat' (first | (refine Br.mk (fun _ => ?_) (fun _ => ?_) <;> cbv) | (refine NilB.mk (fun _ => ?_) ?_ <;> cbv) | refine And.intro ?_ ?_ | exact True.intro)
  · subst hA; exact hV.g0
  · subst hA; exact hV.g1
  · subst hA; exact hV.g2
  · subst hA; exact hV.g3
  · subst hA; exact hV.g4
  · subst hA; exact hV.g5
  · subst hA; exact hV.g6
  · subst hA; exact hV.g7
end HX

namespace HX
open Go Go.Proofs CX
set_option maxHeartbeats 4000000 in
set_option maxRecDepth 100000 in
theorem walk74 {ro A pre fn} (hE : EnvOk ⟨A, (cxE ro), ksF, sigL [], pre, fn⟩) {P : List (List D) → Prop} {res : List (List D) → Nat → Nat → D}
    (hv : ∀ (a0_0 : Int) (a0_1 : Int) (a0_2 : Int) (a0_3 : Int) (a0_4 : Int) (a1 : Rows), ShR [.int .i64] a1 → P [[.i a0_0, .i a0_1, .i a0_2, .i a0_3, .i a0_4], [.l a1]] → ∃ (I0 : Rows → Int → Prop) (m0 : Rows → Int → Nat), V74 a0_0 a0_1 a0_2 a0_3 a0_4 a1 (res [[.i a0_0, .i a0_1, .i a0_2, .i a0_3, .i a0_4], [.l a1]]) I0 m0) :
    PureC (cxE ro) 74 ⟨[(true, [.int .i64, .int .i64, .int .i64, .int .i64, .int .i64]), (false, [.sl [.int .i64]])], [(false, [.sl [.int .i64, .int .i64, .int .i64, .int .i64]])], false⟩ P res := by
  have hA := hE.A
  simp only [] at hA
  have hinl : ∀ f fn, inlL [(75, Tryz.f75)] f = some fn → (cxE ro).fn f = some fn ∧ (cxE ro).ext f = none := Inls.ok (by repeat (first | exact .nil | refine .cons rfl rfl ?_))
  refine PureC.of_vc hE hinl 6 (f := 74) (fn := Tryz.f74) ⟨rfl, rfl⟩ ?_
  intro a0_0 a0_1 a0_2 a0_3 a0_4 a1 ha1 hP
  obtain ⟨R, hR⟩ : ∃ R, res [[.i a0_0, .i a0_1, .i a0_2, .i a0_3, .i a0_4], [.l a1]] = R := ⟨_, rfl⟩
  rw [hR]
  obtain ⟨I0, m0, hV⟩ := hv a0_0 a0_1 a0_2 a0_3 a0_4 a1 ha1 hP
  rw [hR] at hV
  clear hR hP hv
  cbv
  repeat' (first | (refine Br.mk (fun _ => ?_) (fun _ => ?_) <;> cbv) | (refine NilB.mk (fun _ => ?_) ?_ <;> cbv) | refine And.intro ?_ ?_ | exact True.intro)
  · refine Leaf.gen fun σz hσz => ?_
    refine loopB hE hinl 6 [] [] [] (fun x : Rows × Int => [.l x.1, .i x.2]) (fun x => I0 x.1 x.2) (fun x => m0 x.1 x.2) ([], 0) (by subst hA; exact hV.i0) ?_ ?_ <;> subst hσz
    · clear hE hinl hV; cbv; (try (repeat' (first | exact True.intro | rfl | assumption | apply And.intro)))
    · intro ⟨x0_0, x0_1⟩ hI0 K0 hK0
      cbv
      repeat' (first | (refine Br.mk (fun _ => ?_) (fun _ => ?_) <;> cbv) | (refine NilB.mk (fun _ => ?_) ?_ <;> cbv) | refine And.intro ?_ ?_ | exact True.intro)
      · rename_i hp1_0
        subst hA; exact hV.g1 _ _ hI0 (dt hp1_0)
      · rename_i hp2_0
        subst hA; exact hV.g2 _ _ hI0 (dt hp2_0)
      · rename_i hp3_0
        subst hA; exact hV.g3 _ _ hI0 (dt hp3_0)
      · rename_i hp4_0
        subst hA; exact hV.g4 _ _ hI0 (dt hp4_0)
      · rename_i hp5_0
        subst hA; exact hV.g5 _ _ hI0 (dt hp5_0)
      · rename_i hp6_0
        subst hA; exact hV.g6 _ _ hI0 (dt hp6_0)
      · rename_i hp7_0
        refine hK0 (A.app x0_0 [[D.i (A.add a0_3 (A.mul x0_1 a0_4)), D.i a0_2, D.i (A.di (A.get a1 (A.toNat x0_1) 0)), D.i 1]], A.add x0_1 1) _ ?_ ?_ ?_
        · subst hA; exact (hV.n7 _ _ hI0 (dt hp7_0)).1
        · subst hA; exact (hV.n7 _ _ hI0 (dt hp7_0)).2
        · clear hE hinl hV hK0; cbv; (try (repeat' (first | exact True.intro | rfl | assumption | apply And.intro)))
      · rename_i hp8_0
        subst hA; exact hV.g8 _ _ hI0 (df hp8_0)
end HX

namespace HX
open Go Go.Proofs CX
set_option maxHeartbeats 4000000 in
set_option maxRecDepth 100000 in
theorem walk75 {ro A pre fn} (hE : EnvOk ⟨A, (cxE ro), ksF, sigL [], pre, fn⟩) {P : List (List D) → Prop} {res : List (List D) → Nat → Nat → D}
    (hv : ∀ (a0_0 : Int) (a0_1 : Int) (a0_2 : Int) (a0_3 : Int) (a0_4 : Int) (a1 : Int) (a2 : Int), P [[.i a0_0, .i a0_1, .i a0_2, .i a0_3, .i a0_4], [.i a1], [.i a2]] → V75 a0_0 a0_1 a0_2 a0_3 a0_4 a1 a2 (res [[.i a0_0, .i a0_1, .i a0_2, .i a0_3, .i a0_4], [.i a1], [.i a2]]) ) :
    PureC (cxE ro) 75 ⟨[(true, [.int .i64, .int .i64, .int .i64, .int .i64, .int .i64]), (false, [.int .i64]), (false, [.int .i64])], [(true, [.int .i64, .int .i64, .int .i64, .int .i64])], false⟩ P res := by
  have hA := hE.A
  simp only [] at hA
  have hinl : ∀ f fn, inlL [] f = some fn → (cxE ro).fn f = some fn ∧ (cxE ro).ext f = none := Inls.ok (by repeat (first | exact .nil | refine .cons rfl rfl ?_))
  refine PureC.of_vc hE hinl 6 (f := 75) (fn := Tryz.f75) ⟨rfl, rfl⟩ ?_
  intro a0_0 a0_1 a0_2 a0_3 a0_4 a1 a2 hP
  obtain ⟨R, hR⟩ : ∃ R, res [[.i a0_0, .i a0_1, .i a0_2, .i a0_3, .i a0_4], [.i a1], [.i a2]] = R := ⟨_, rfl⟩
  rw [hR]
  have hV := hv a0_0 a0_1 a0_2 a0_3 a0_4 a1 a2  hP
  rw [hR] at hV
  clear hR hP hv
  cbv
  repeat' (first | (refine Br.mk (fun _ => ?_) (fun _ => ?_) <;> cbv) | (refine NilB.mk (fun _ => ?_) ?_ <;> cbv) | refine And.intro ?_ ?_ | exact True.intro)
  · subst hA; exact hV.g0
  · subst hA; exact hV.g1
  · subst hA; exact hV.g2
  · subst hA; exact hV.g3
end HX

namespace HX
open Go Go.Proofs CX
set_option maxHeartbeats 4000000 in
set_option maxRecDepth 100000 in
theorem walk28 {ro A pre fn} (hE : EnvOk ⟨A, (cxE ro), ksF, sigL [], pre, fn⟩) {P : List (List D) → Prop} {res : List (List D) → Nat → Nat → D}
    (hv : ∀ (a0 : Rows), ShR [.sl [.sl [.int .i64]], .sl [.int .i64]] a0 → P [[.l a0]] → ∃ (I0 : Rows → Bool → Rows → Int → Prop) (m0 : Rows → Bool → Rows → Int → Nat) (I1 : Rows → Bool → Rows → Int → Rows → Bool → Int → Rows → Rows → Prop) (m1 : Rows → Bool → Rows → Int → Rows → Bool → Int → Rows → Rows → Nat), V28 a0 (res [[.l a0]]) I0 m0 I1 m1) :
    PureC (cxE ro) 28 ⟨[(false, [.sl [.sl [.sl [.int .i64]], .sl [.int .i64]]])], [(false, [.sl [.sl [.sl [.int .i64]], .sl [.int .i64]]]), (false, [.bool])], false⟩ P res := by
  have hA := hE.A
  simp only [] at hA
  have hinl : ∀ f fn, inlL [] f = some fn → (cxE ro).fn f = some fn ∧ (cxE ro).ext f = none := Inls.ok (by repeat (first | exact .nil | refine .cons rfl rfl ?_))
  refine PureC.of_vc hE hinl 6 (f := 28) (fn := Tryz.f28) ⟨rfl, rfl⟩ ?_
  intro a0 ha0 hP
  obtain ⟨R, hR⟩ : ∃ R, res [[.l a0]] = R := ⟨_, rfl⟩
  rw [hR]
  obtain ⟨I0, m0, I1, m1, hV⟩ := hv a0 ha0 hP
  rw [hR] at hV
  clear hR hP hv
  cbv
  repeat' (first | (refine Br.mk (fun _ => ?_) (fun _ => ?_) <;> cbv) | (refine NilB.mk (fun _ => ?_) ?_ <;> cbv) | refine And.intro ?_ ?_ | exact True.intro)
  · refine Leaf.gen fun σz hσz => ?_
    refine loopB hE hinl 6 [] [] [] (fun x : Rows × Bool × Rows × Int => [.l x.1, .b x.2.1, .l x.2.2.1, .i x.2.2.2]) (fun x => I0 x.1 x.2.1 x.2.2.1 x.2.2.2) (fun x => m0 x.1 x.2.1 x.2.2.1 x.2.2.2) ([], false, [], 0) (by subst hA; exact hV.i0) ?_ ?_ <;> subst hσz
    · clear hE hinl hV; cbv; (try (repeat' (first | exact True.intro | rfl | assumption | apply And.intro)))
    · intro ⟨x0_0, x0_1, x0_2, x0_3⟩ hI0 K0 hK0
      cbv
      repeat' (first | (refine Br.mk (fun _ => ?_) (fun _ => ?_) <;> cbv) | (refine NilB.mk (fun _ => ?_) ?_ <;> cbv) | refine And.intro ?_ ?_ | exact True.intro)
      · rename_i hp1_0 hp1_1
        subst hA; exact hV.g1 _ _ _ _ hI0 (dt hp1_0) (dt hp1_1)
      · rename_i hp2_0 hp2_1
        subst hA; exact hV.g2 _ _ _ _ hI0 (dt hp2_0) (dt hp2_1)
      · rename_i hp3_0 hp3_1
        subst hA; exact hV.g3 _ _ _ _ hI0 (dt hp3_0) (df hp3_1)
      · rename_i hp4_0 hp4_1
        subst hA; exact hV.g4 _ _ _ _ hI0 (dt hp4_0) (df hp4_1)
      · rename_i hp5_0 hp5_1 hp5_2
        subst hA; exact hV.g5 _ _ _ _ hI0 (dt hp5_0) (df hp5_1) (dt hp5_2)
      · rename_i hp6_0 hp6_1 hp6_2
        subst hA; exact hV.g6 _ _ _ _ hI0 (dt hp6_0) (df hp6_1) (dt hp6_2)
      · rename_i hp7_0 hp7_1 hp7_2
        subst hA; exact hV.g7 _ _ _ _ hI0 (dt hp7_0) (df hp7_1) (df hp7_2)
      · rename_i hp8_0 hp8_1 hp8_2
        subst hA; exact hV.g8 _ _ _ _ hI0 (dt hp8_0) (df hp8_1) (df hp8_2)
      · rename_i hp9_0 hp9_1 hp9_2 hp9_3
        subst hA; exact hV.g9 _ _ _ _ hI0 (dt hp9_0) (df hp9_1) (df hp9_2) (dt hp9_3)
      · rename_i hp10_0 hp10_1 hp10_2 hp10_3
        subst hA; exact hV.g10 _ _ _ _ hI0 (dt hp10_0) (df hp10_1) (df hp10_2) (dt hp10_3)
      · rename_i hp11_0 hp11_1 hp11_2 hp11_3
        subst hA; exact hV.g11 _ _ _ _ hI0 (dt hp11_0) (df hp11_1) (df hp11_2) (df hp11_3)
      · rename_i hp12_0 hp12_1 hp12_2 hp12_3
        subst hA; exact hV.g12 _ _ _ _ hI0 (dt hp12_0) (df hp12_1) (df hp12_2) (df hp12_3)
      · rename_i hp13_0 hp13_1 hp13_2 hp13_3
        subst hA; exact hV.g13 _ _ _ _ hI0 (dt hp13_0) (df hp13_1) (df hp13_2) (df hp13_3)
      · rename_i hp14_0 hp14_1 hp14_2 hp14_3
        refine Leaf.gen fun σz hσz => ?_
        refine loopB hE hinl 6 [] [] [(6, [97, 22])] (fun x : Rows × Bool × Int × Rows × Rows => [.l x.1, .b x.2.1, .i x.2.2.1, D.l [[.l x.2.2.2.1, .l x.2.2.2.2]]]) (fun x => I1 x0_0 x0_1 x0_2 x0_3 x.1 x.2.1 x.2.2.1 x.2.2.2.1 x.2.2.2.2) (fun x => m1 x0_0 x0_1 x0_2 x0_3 x.1 x.2.1 x.2.2.1 x.2.2.2.1 x.2.2.2.2) (x0_0, x0_1, 0, [], A.app [] (A.dl (A.get a0 (A.toNat x0_3) 1))) (by subst hA; exact hV.i1 _ _ _ _ hI0 (dt hp14_0) (df hp14_1) (df hp14_2) (df hp14_3)) ?_ ?_ <;> subst hσz
        · clear hE hinl hV; cbv; (try (repeat' (first | exact True.intro | rfl | assumption | apply And.intro)))
        · intro ⟨x1_0, x1_1, x1_2, x1_3, x1_4⟩ hI1 K1 hK1
          cbv
          repeat' (first | (refine Br.mk (fun _ => ?_) (fun _ => ?_) <;> cbv) | (refine NilB.mk (fun _ => ?_) ?_ <;> cbv) | refine And.intro ?_ ?_ | exact True.intro)
          · subst hA; exact hV.g15 _ _ _ _ hI0 _ _ _ _ _ hI1 (dt hp14_0) (df hp14_1) (df hp14_2) (df hp14_3)
          · subst hA; exact hV.g16 _ _ _ _ hI0 _ _ _ _ _ hI1 (dt hp14_0) (df hp14_1) (df hp14_2) (df hp14_3)
          · rename_i hp17_0
            subst hA; exact hV.g17 _ _ _ _ hI0 _ _ _ _ _ hI1 (dt hp14_0) (df hp14_1) (df hp14_2) (df hp14_3) (dt hp17_0)
          · rename_i hp18_0
            subst hA; exact hV.g18 _ _ _ _ hI0 _ _ _ _ _ hI1 (dt hp14_0) (df hp14_1) (df hp14_2) (df hp14_3) (dt hp18_0)
          · rename_i hp19_0
            subst hA; exact hV.g19 _ _ _ _ hI0 _ _ _ _ _ hI1 (dt hp14_0) (df hp14_1) (df hp14_2) (df hp14_3) (dt hp19_0)
          · rename_i hp20_0
            subst hA; exact hV.g20 _ _ _ _ hI0 _ _ _ _ _ hI1 (dt hp14_0) (df hp14_1) (df hp14_2) (df hp14_3) (dt hp20_0)
          · rename_i hp21_0 hp21_1
            subst hA; exact hV.g21 _ _ _ _ hI0 _ _ _ _ _ hI1 (dt hp14_0) (df hp14_1) (df hp14_2) (df hp14_3) (dt hp21_0) (dt hp21_1)
          · rename_i hp22_0 hp22_1
            subst hA; exact hV.g22 _ _ _ _ hI0 _ _ _ _ _ hI1 (dt hp14_0) (df hp14_1) (df hp14_2) (df hp14_3) (dt hp22_0) (dt hp22_1)
          · rename_i hp23_0 hp23_1
            subst hA; exact hV.g23 _ _ _ _ hI0 _ _ _ _ _ hI1 (dt hp14_0) (df hp14_1) (df hp14_2) (df hp14_3) (dt hp23_0) (df hp23_1)
          · rename_i hp24_0 hp24_1
            subst hA; exact hV.g24 _ _ _ _ hI0 _ _ _ _ _ hI1 (dt hp14_0) (df hp14_1) (df hp14_2) (df hp14_3) (dt hp24_0) (df hp24_1)
          · rename_i hp25_0 hp25_1
            subst hA; exact hV.g25 _ _ _ _ hI0 _ _ _ _ _ hI1 (dt hp14_0) (df hp14_1) (df hp14_2) (df hp14_3) (dt hp25_0) (df hp25_1)
          · rename_i hp26_0 hp26_1
            subst hA; exact hV.g26 _ _ _ _ hI0 _ _ _ _ _ hI1 (dt hp14_0) (df hp14_1) (df hp14_2) (df hp14_3) (dt hp26_0) (df hp26_1)
          · rename_i hp27_0 hp27_1
            subst hA; exact hV.g27 _ _ _ _ hI0 _ _ _ _ _ hI1 (dt hp14_0) (df hp14_1) (df hp14_2) (df hp14_3) (dt hp27_0) (df hp27_1)
          · rename_i hp28_0 hp28_1
            subst hA; exact hV.g28 _ _ _ _ hI0 _ _ _ _ _ hI1 (dt hp14_0) (df hp14_1) (df hp14_2) (df hp14_3) (dt hp28_0) (df hp28_1)
          · rename_i hp29_0 hp29_1
            subst hA; exact hV.g29 _ _ _ _ hI0 _ _ _ _ _ hI1 (dt hp14_0) (df hp14_1) (df hp14_2) (df hp14_3) (dt hp29_0) (df hp29_1)
          · rename_i hp30_0 hp30_1
            refine hK1 (x1_0, x1_1, A.add x1_2 1, A.app x1_3 [[D.l (A.app [] (A.dl (A.get (A.dl (A.get a0 (A.toNat x0_3) 0)) (A.toNat x1_2) 0)))]], x1_4) _ ?_ ?_ ?_
            · subst hA; exact (hV.n30 _ _ _ _ hI0 _ _ _ _ _ hI1 (dt hp14_0) (df hp14_1) (df hp14_2) (df hp14_3) (dt hp30_0) (df hp30_1)).1
            · subst hA; exact (hV.n30 _ _ _ _ hI0 _ _ _ _ _ hI1 (dt hp14_0) (df hp14_1) (df hp14_2) (df hp14_3) (dt hp30_0) (df hp30_1)).2
            · clear hE hinl hV hK1; cbv; (try (repeat' (first | exact True.intro | rfl | assumption | apply And.intro)))
          · rename_i hp31_0
            subst hA; exact hV.g31 _ _ _ _ hI0 _ _ _ _ _ hI1 (dt hp14_0) (df hp14_1) (df hp14_2) (df hp14_3) (df hp31_0)
          · rename_i hp32_0
            subst hA; exact hV.g32 _ _ _ _ hI0 _ _ _ _ _ hI1 (dt hp14_0) (df hp14_1) (df hp14_2) (df hp14_3) (df hp32_0)
          · rename_i hp33_0
            refine hK0 (x1_0, x1_1, A.app x0_2 [[D.l x1_3, D.l x1_4]], A.add x0_3 1) _ ?_ ?_ ?_
            · subst hA; exact (hV.n33 _ _ _ _ hI0 _ _ _ _ _ hI1 (dt hp14_0) (df hp14_1) (df hp14_2) (df hp14_3) (df hp33_0)).1
            · subst hA; exact (hV.n33 _ _ _ _ hI0 _ _ _ _ _ hI1 (dt hp14_0) (df hp14_1) (df hp14_2) (df hp14_3) (df hp33_0)).2
            · clear hE hinl hV hK0; cbv; (try (repeat' (first | exact True.intro | rfl | assumption | apply And.intro)))
      · rename_i hp34_0
        subst hA; exact hV.g34 _ _ _ _ hI0 (df hp34_0)
      · rename_i hp35_0
        subst hA; exact hV.g35 _ _ _ _ hI0 (df hp35_0)
end HX

namespace HX
open Go Go.Proofs CX
set_option maxHeartbeats 4000000 in
set_option maxRecDepth 100000 in
theorem walk29 {ro A pre fn} (hE : EnvOk ⟨A, (cxE ro), ksF, sigL [(63, ⟨[(false, [.int .i64]), (false, [.sl [.sl [.sl [.int .i64]], .sl [.int .i64]]]), (false, [.fnc 64]), (false, [.fnc 65])], [(false, [.int .i64])], false⟩), (67, ⟨[(false, [.sl [.int .i64]]), (false, [.sl [.bool]]), (false, [.fnc 66])], [(false, [.int .i64])], false⟩)], pre, fn⟩) {P : List (List D) → Prop} {res : List (List D) → Nat → Nat → D}
    (hv : ∀ (a0 : Rows) (a1 : Rows), ShR [.sl [.sl [.int .i64]], .sl [.int .i64]] a0 → ShR [.bool] a1 → P [[.l a0], [.l a1]] → ∃ (I0 : Rows → Int → Prop) (m0 : Rows → Int → Nat) (I1 : Rows → Int → Rows → Int → Prop) (m1 : Rows → Int → Rows → Int → Nat), V29 pre fn a0 a1 (res [[.l a0], [.l a1]]) I0 m0 I1 m1) :
    PureC (cxE ro) 29 ⟨[(false, [.sl [.sl [.sl [.int .i64]], .sl [.int .i64]]]), (false, [.sl [.bool]])], [(false, [.sl [.bool]]), (false, [.int .i64])], false⟩ P res := by
  have hA := hE.A
  simp only [] at hA
  have hinl : ∀ f fn, inlL [] f = some fn → (cxE ro).fn f = some fn ∧ (cxE ro).ext f = none := Inls.ok (by repeat (first | exact .nil | refine .cons rfl rfl ?_))
  refine PureC.of_vc hE hinl 6 (f := 29) (fn := Tryz.f29) ⟨rfl, rfl⟩ ?_
  intro a0 ha0 a1 ha1 hP
  obtain ⟨R, hR⟩ : ∃ R, res [[.l a0], [.l a1]] = R := ⟨_, rfl⟩
  rw [hR]
  obtain ⟨I0, m0, I1, m1, hV⟩ := hv a0 a1 ha0 ha1 hP
  rw [hR] at hV
  clear hR hP hv
  cbv
  repeat' (first | (refine Br.mk (fun _ => ?_) (fun _ => ?_) <;> cbv) | (refine NilB.mk (fun _ => ?_) ?_ <;> cbv) | refine And.intro ?_ ?_ | exact True.intro)
  · subst hA; exact hV.g0
  · rename_i hp1_0
    subst hA; exact hV.g1 (df (nt hp1_0))
  · rename_i hp2_0
    subst hA; exact hV.g2 (df (nt hp2_0))
  · rename_i hp3_0
    refine Leaf.gen fun σz hσz => ?_
    refine loopB hE hinl 6 [1] [] [] (fun x : Rows × Int => [.l x.1, .i x.2]) (fun x => I0 x.1 x.2) (fun x => m0 x.1 x.2) (a1, 0) (by subst hA; exact hV.i0 (dt (nf hp3_0))) ?_ ?_ <;> subst hσz
    · clear hE hinl hV; cbv; (try (repeat' (first | exact True.intro | rfl | assumption | apply And.intro)))
    · intro ⟨x0_0, x0_1⟩ hI0 K0 hK0
      cbv
      repeat' (first | (refine Br.mk (fun _ => ?_) (fun _ => ?_) <;> cbv) | (refine NilB.mk (fun _ => ?_) ?_ <;> cbv) | refine And.intro ?_ ?_ | exact True.intro)
      · rename_i hp4_0
        subst hA; exact hV.g4 _ _ hI0 (dt (nf hp3_0)) (dt hp4_0)
      · rename_i hp5_0
        subst hA; exact hV.g5 _ _ hI0 (dt (nf hp3_0)) (dt hp5_0)
      · rename_i hp6_0
        refine Leaf.gen fun σz hσz => ?_
        refine loopB hE hinl 6 [] [] [] (fun x : Rows × Int => [.l x.1, .i x.2]) (fun x => I1 x0_0 x0_1 x.1 x.2) (fun x => m1 x0_0 x0_1 x.1 x.2) ([], 0) (by subst hA; exact hV.i1 _ _ hI0 (dt (nf hp3_0)) (dt hp6_0)) ?_ ?_ <;> subst hσz
        · clear hE hinl hV; cbv; (try (repeat' (first | exact True.intro | rfl | assumption | apply And.intro)))
        · intro ⟨x1_0, x1_1⟩ hI1 K1 hK1
          cbv
          repeat' (first | (refine Br.mk (fun _ => ?_) (fun _ => ?_) <;> cbv) | (refine NilB.mk (fun _ => ?_) ?_ <;> cbv) | refine And.intro ?_ ?_ | exact True.intro)
          · rename_i hp7_0
            subst hA; exact hV.g7 _ _ hI0 _ _ hI1 (dt (nf hp3_0)) (dt hp6_0) (dt hp7_0)
          · rename_i hp8_0
            subst hA; exact hV.g8 _ _ hI0 _ _ hI1 (dt (nf hp3_0)) (dt hp6_0) (dt hp8_0)
          · rename_i hp9_0
            subst hA; exact hV.g9 _ _ hI0 _ _ hI1 (dt (nf hp3_0)) (dt hp6_0) (dt hp9_0)
          · rename_i hp10_0
            subst hA; exact hV.g7 _ _ hI0 _ _ hI1 (dt (nf hp3_0)) (dt hp6_0) (dt hp10_0)
          · rename_i hp11_0
            subst hA; exact hV.g11 _ _ hI0 _ _ hI1 (dt (nf hp3_0)) (dt hp6_0) (dt hp11_0)
          · rename_i hp12_0
            subst hA; exact hV.g12 _ _ hI0 _ _ hI1 (dt (nf hp3_0)) (dt hp6_0) (dt hp12_0)
          · rename_i hp13_0
            subst hA; exact hV.g13 _ _ hI0 _ _ hI1 (dt (nf hp3_0)) (dt hp6_0) (dt hp13_0)
          · rename_i hp14_0
            refine hK1 (A.app x1_0 [[D.b (A.le (A.di (A.get (A.dl (A.get a0 (A.toNat x0_1) 1)) (A.toNat x1_1) 0)) (A.di (fn 67 [[D.l (A.dl (A.get (A.dl (A.get a0 (A.toNat x0_1) 0)) (A.toNat x1_1) 0))], [D.l x0_0], [D.nil]] 0 0)))]], A.add x1_1 1) _ ?_ ?_ ?_
            · subst hA; exact (hV.n14 _ _ hI0 _ _ hI1 (dt (nf hp3_0)) (dt hp6_0) (dt hp14_0)).1
            · subst hA; exact (hV.n14 _ _ hI0 _ _ hI1 (dt (nf hp3_0)) (dt hp6_0) (dt hp14_0)).2
            · clear hE hinl hV hK1; cbv; (try (repeat' (first | exact True.intro | rfl | assumption | apply And.intro)))
          · rename_i hp15_0
            subst hA; exact hV.g15 _ _ hI0 _ _ hI1 (dt (nf hp3_0)) (dt hp6_0) (df hp15_0)
          · rename_i hp16_0
            refine hK0 (x1_0, A.add x0_1 1) _ ?_ ?_ ?_
            · subst hA; exact (hV.n16 _ _ hI0 _ _ hI1 (dt (nf hp3_0)) (dt hp6_0) (df hp16_0)).1
            · subst hA; exact (hV.n16 _ _ hI0 _ _ hI1 (dt (nf hp3_0)) (dt hp6_0) (df hp16_0)).2
            · clear hE hinl hV hK0; cbv; (try (repeat' (first | exact True.intro | rfl | assumption | apply And.intro)))
      · rename_i hp17_0
        subst hA; exact hV.g17 _ _ hI0 (dt (nf hp3_0)) (df hp17_0)
      · rename_i hp18_0
        subst hA; exact hV.g18 _ _ hI0 (dt (nf hp3_0)) (df hp18_0)
end HX

namespace HX
open Go Go.Proofs CX
set_option maxHeartbeats 4000000 in
set_option maxRecDepth 100000 in
theorem walk30 {ro A pre fn} (hE : EnvOk ⟨A, (cxE ro), ksF, sigL [(68, ⟨[(false, [.int .i64]), (false, [.sl [.sl [.sl [.int .i64]], .sl [.int .i64]]])], [(false, [.int .i64])], false⟩)], pre, fn⟩) {P : List (List D) → Prop} {res : List (List D) → Nat → Nat → D}
    (hv : ∀ (a0 : Rows) (a1 : Rows), ShR [.sl [.sl [.int .i64]], .sl [.int .i64]] a0 → ShR [.bool] a1 → P [[.l a0], [.l a1]] → ∃ (I0 : Rows → Int → Prop) (m0 : Rows → Int → Nat) (I1 : Rows → Int → Rows → Int → Prop) (m1 : Rows → Int → Rows → Int → Nat) (I2 : Rows → Int → Rows → Int → Int → Int → Prop) (m2 : Rows → Int → Rows → Int → Int → Int → Nat), V30 pre fn a0 a1 (res [[.l a0], [.l a1]]) I0 m0 I1 m1 I2 m2) :
    PureC (cxE ro) 30 ⟨[(false, [.sl [.sl [.sl [.int .i64]], .sl [.int .i64]]]), (false, [.sl [.bool]])], [(false, [.sl [.bool]]), (false, [.int .i64])], false⟩ P res := by
  have hA := hE.A
  simp only [] at hA
  have hinl : ∀ f fn, inlL [] f = some fn → (cxE ro).fn f = some fn ∧ (cxE ro).ext f = none := Inls.ok (by repeat (first | exact .nil | refine .cons rfl rfl ?_))
  refine PureC.of_vc hE hinl 6 (f := 30) (fn := Tryz.f30) ⟨rfl, rfl⟩ ?_
  intro a0 ha0 a1 ha1 hP
  obtain ⟨R, hR⟩ : ∃ R, res [[.l a0], [.l a1]] = R := ⟨_, rfl⟩
  rw [hR]
  obtain ⟨I0, m0, I1, m1, I2, m2, hV⟩ := hv a0 a1 ha0 ha1 hP
  rw [hR] at hV
  clear hR hP hv
  cbv
  repeat' (first | (refine Br.mk (fun _ => ?_) (fun _ => ?_) <;> cbv) | (refine NilB.mk (fun _ => ?_) ?_ <;> cbv) | refine And.intro ?_ ?_ | exact True.intro)
  · subst hA; exact hV.g0
  · rename_i hp1_0
    subst hA; exact hV.g1 (df (nt hp1_0))
  · rename_i hp2_0
    subst hA; exact hV.g2 (df (nt hp2_0))
  · rename_i hp3_0
    refine Leaf.gen fun σz hσz => ?_
    refine loopB hE hinl 6 [7] [] [] (fun x : Rows × Int => [.l x.1, .i x.2]) (fun x => I0 x.1 x.2) (fun x => m0 x.1 x.2) (a1, 0) (by subst hA; exact hV.i0 (dt (nf hp3_0))) ?_ ?_ <;> subst hσz
    · clear hE hinl hV; cbv; (try (repeat' (first | exact True.intro | rfl | assumption | apply And.intro)))
    · intro ⟨x0_0, x0_1⟩ hI0 K0 hK0
      cbv
      repeat' (first | (refine Br.mk (fun _ => ?_) (fun _ => ?_) <;> cbv) | (refine NilB.mk (fun _ => ?_) ?_ <;> cbv) | refine And.intro ?_ ?_ | exact True.intro)
      · rename_i hp4_0
        refine Leaf.gen fun σz hσz => ?_
        refine loopB hE hinl 6 [] [] [] (fun x : Rows × Int => [.l x.1, .i x.2]) (fun x => I1 x0_0 x0_1 x.1 x.2) (fun x => m1 x0_0 x0_1 x.1 x.2) ([], 0) (by subst hA; exact hV.i1 _ _ hI0 (dt (nf hp3_0)) (dt hp4_0)) ?_ ?_ <;> subst hσz
        · clear hE hinl hV; cbv; (try (repeat' (first | exact True.intro | rfl | assumption | apply And.intro)))
        · intro ⟨x1_0, x1_1⟩ hI1 K1 hK1
          cbv
          repeat' (first | (refine Br.mk (fun _ => ?_) (fun _ => ?_) <;> cbv) | (refine NilB.mk (fun _ => ?_) ?_ <;> cbv) | refine And.intro ?_ ?_ | exact True.intro)
          · subst hA; exact hV.g5 _ _ hI0 _ _ hI1 (dt (nf hp3_0)) (dt hp4_0)
          · subst hA; exact hV.g6 _ _ hI0 _ _ hI1 (dt (nf hp3_0)) (dt hp4_0)
          · rename_i hp7_0
            refine Leaf.gen fun σz hσz => ?_
            refine loopB hE hinl 6 [] [] [] (fun x : Int × Int => [.i x.1, .i x.2]) (fun x => I2 x0_0 x0_1 x1_0 x1_1 x.1 x.2) (fun x => m2 x0_0 x0_1 x1_0 x1_1 x.1 x.2) (0, 0) (by subst hA; exact hV.i2 _ _ hI0 _ _ hI1 (dt (nf hp3_0)) (dt hp4_0) (dt hp7_0)) ?_ ?_ <;> subst hσz
            · clear hE hinl hV; cbv; (try (repeat' (first | exact True.intro | rfl | assumption | apply And.intro)))
            · intro ⟨x2_0, x2_1⟩ hI2 K2 hK2
              cbv
              repeat' (first | (refine Br.mk (fun _ => ?_) (fun _ => ?_) <;> cbv) | (refine NilB.mk (fun _ => ?_) ?_ <;> cbv) | refine And.intro ?_ ?_ | exact True.intro)
              · rename_i hp8_0
                subst hA; exact hV.g8 _ _ hI0 _ _ hI1 _ _ hI2 (dt (nf hp3_0)) (dt hp4_0) (dt hp7_0) (dt hp8_0)
              · rename_i hp9_0
                subst hA; exact hV.g9 _ _ hI0 _ _ hI1 _ _ hI2 (dt (nf hp3_0)) (dt hp4_0) (dt hp7_0) (dt hp9_0)
              · rename_i hp10_0 hp10_1
                subst hA; exact hV.g10 _ _ hI0 _ _ hI1 _ _ hI2 (dt (nf hp3_0)) (dt hp4_0) (dt hp7_0) (dt hp10_0) hp10_1
              · rename_i hp11_0 hp11_1
                subst hA; exact hV.g11 _ _ hI0 _ _ hI1 _ _ hI2 (dt (nf hp3_0)) (dt hp4_0) (dt hp7_0) (dt hp11_0) hp11_1
              · rename_i hp12_0 hp12_1
                subst hA; exact hV.g12 _ _ hI0 _ _ hI1 _ _ hI2 (dt (nf hp3_0)) (dt hp4_0) (dt hp7_0) (dt hp12_0) hp12_1
              · rename_i hp13_0 hp13_1
                subst hA; exact hV.g13 _ _ hI0 _ _ hI1 _ _ hI2 (dt (nf hp3_0)) (dt hp4_0) (dt hp7_0) (dt hp13_0) hp13_1
              · rename_i hp14_0 hp14_1
                subst hA; exact hV.g14 _ _ hI0 _ _ hI1 _ _ hI2 (dt (nf hp3_0)) (dt hp4_0) (dt hp7_0) (dt hp14_0) hp14_1
              · rename_i hp15_0 hp15_1
                subst hA; exact hV.g15 _ _ hI0 _ _ hI1 _ _ hI2 (dt (nf hp3_0)) (dt hp4_0) (dt hp7_0) (dt hp15_0) hp15_1
              · rename_i hp16_0 hp16_1
                subst hA; exact hV.g16 _ _ hI0 _ _ hI1 _ _ hI2 (dt (nf hp3_0)) (dt hp4_0) (dt hp7_0) (dt hp16_0) hp16_1
              · rename_i hp17_0 hp17_1
                subst hA; exact hV.g17 _ _ hI0 _ _ hI1 _ _ hI2 (dt (nf hp3_0)) (dt hp4_0) (dt hp7_0) (dt hp17_0) hp17_1
              · rename_i hp18_0 hp18_1
                refine hK2 (A.add x2_0 (A.di (A.get (A.dl (A.get (A.dl (A.get a0 (A.toNat x0_1) 0)) (A.toNat x1_1) 0)) (A.toNat x2_1) 0)), A.add x2_1 1) _ ?_ ?_ ?_
                · subst hA; exact (hV.n18 _ _ hI0 _ _ hI1 _ _ hI2 (dt (nf hp3_0)) (dt hp4_0) (dt hp7_0) (dt hp18_0) hp18_1).1
                · subst hA; exact (hV.n18 _ _ hI0 _ _ hI1 _ _ hI2 (dt (nf hp3_0)) (dt hp4_0) (dt hp7_0) (dt hp18_0) hp18_1).2
                · clear hE hinl hV hK2; cbv; (try (repeat' (first | exact True.intro | rfl | assumption | apply And.intro)))
              · rename_i hp19_0 hp19_1
                subst hA; exact hV.g19 _ _ hI0 _ _ hI1 _ _ hI2 (dt (nf hp3_0)) (dt hp4_0) (dt hp7_0) (dt hp19_0) hp19_1
              · rename_i hp20_0 hp20_1
                refine hK2 (x2_0, A.add x2_1 1) _ ?_ ?_ ?_
                · subst hA; exact (hV.n20 _ _ hI0 _ _ hI1 _ _ hI2 (dt (nf hp3_0)) (dt hp4_0) (dt hp7_0) (dt hp20_0) hp20_1).1
                · subst hA; exact (hV.n20 _ _ hI0 _ _ hI1 _ _ hI2 (dt (nf hp3_0)) (dt hp4_0) (dt hp7_0) (dt hp20_0) hp20_1).2
                · clear hE hinl hV hK2; cbv; (try (repeat' (first | exact True.intro | rfl | assumption | apply And.intro)))
              · rename_i hp21_0
                subst hA; exact hV.g21 _ _ hI0 _ _ hI1 _ _ hI2 (dt (nf hp3_0)) (dt hp4_0) (dt hp7_0) (df hp21_0)
              · rename_i hp22_0
                subst hA; exact hV.g22 _ _ hI0 _ _ hI1 _ _ hI2 (dt (nf hp3_0)) (dt hp4_0) (dt hp7_0) (df hp22_0)
              · rename_i hp23_0
                subst hA; exact hV.g23 _ _ hI0 _ _ hI1 _ _ hI2 (dt (nf hp3_0)) (dt hp4_0) (dt hp7_0) (df hp23_0)
              · rename_i hp24_0
                subst hA; exact hV.g24 _ _ hI0 _ _ hI1 _ _ hI2 (dt (nf hp3_0)) (dt hp4_0) (dt hp7_0) (df hp24_0)
              · rename_i hp25_0
                subst hA; exact hV.g25 _ _ hI0 _ _ hI1 _ _ hI2 (dt (nf hp3_0)) (dt hp4_0) (dt hp7_0) (df hp25_0)
              · rename_i hp26_0
                subst hA; exact hV.g26 _ _ hI0 _ _ hI1 _ _ hI2 (dt (nf hp3_0)) (dt hp4_0) (dt hp7_0) (df hp26_0)
              · rename_i hp27_0
                refine hK1 (A.app x1_0 [[D.b (A.le (A.di (A.get (A.dl (A.get a0 (A.toNat x0_1) 1)) (A.toNat x1_1) 0)) x2_0)]], A.add x1_1 1) _ ?_ ?_ ?_
                · subst hA; exact (hV.n27 _ _ hI0 _ _ hI1 _ _ hI2 (dt (nf hp3_0)) (dt hp4_0) (dt hp7_0) (df hp27_0)).1
                · subst hA; exact (hV.n27 _ _ hI0 _ _ hI1 _ _ hI2 (dt (nf hp3_0)) (dt hp4_0) (dt hp7_0) (df hp27_0)).2
                · clear hE hinl hV hK1; cbv; (try (repeat' (first | exact True.intro | rfl | assumption | apply And.intro)))
          · rename_i hp28_0
            subst hA; exact hV.g28 _ _ hI0 _ _ hI1 (dt (nf hp3_0)) (dt hp4_0) (df hp28_0)
          · rename_i hp29_0
            refine hK0 (x1_0, A.add x0_1 1) _ ?_ ?_ ?_
            · subst hA; exact (hV.n29 _ _ hI0 _ _ hI1 (dt (nf hp3_0)) (dt hp4_0) (df hp29_0)).1
            · subst hA; exact (hV.n29 _ _ hI0 _ _ hI1 (dt (nf hp3_0)) (dt hp4_0) (df hp29_0)).2
            · clear hE hinl hV hK0; cbv; (try (repeat' (first | exact True.intro | rfl | assumption | apply And.intro)))
      · rename_i hp30_0
        subst hA; exact hV.g30 _ _ hI0 (dt (nf hp3_0)) (df hp30_0)
      · rename_i hp31_0
        subst hA; exact hV.g31 _ _ hI0 (dt (nf hp3_0)) (df hp31_0)
end HX

namespace HX
open Go Go.Proofs CX
set_option maxHeartbeats 4000000 in
set_option maxRecDepth 100000 in
theorem walk32 {ro A pre fn} (hE : EnvOk ⟨A, (cxE ro), ksF, sigL [(63, ⟨[(false, [.int .i64]), (false, [.sl [.sl [.sl [.int .i64]], .sl [.int .i64]]]), (false, [.fnc 64]), (false, [.fnc 65])], [(false, [.int .i64])], false⟩), (69, ⟨[(false, [.sl [.sl [.sl [.int .i64]], .sl [.int .i64]]]), (false, [.fnc 64])], [(false, [.sl [.int .i64]])], false⟩), (70, ⟨[(false, [.int .i64]), (false, [.pt (.int .i64)]), (false, [.pt (.int .i64)])], [(false, [.int .i64])], false⟩), (71, ⟨[(false, [.sl [.int .i64, .int .i64, .int .i64, .int .i64, .int .i64, .int .i64, .int .i64, .int .i64]]), (false, [.int .i64])], [(false, [.sl [.int .i64, .int .i64, .int .i64, .int .i64, .int .i64, .int .i64, .int .i64, .int .i64]])], false⟩), (72, ⟨[], [(true, [.int .i64, .int .i64, .int .i64, .int .i64, .int .i64, .int .i64, .int .i64, .int .i64])], false⟩), (74, ⟨[(true, [.int .i64, .int .i64, .int .i64, .int .i64, .int .i64]), (false, [.sl [.int .i64]])], [(false, [.sl [.int .i64, .int .i64, .int .i64, .int .i64]])], false⟩), (75, ⟨[(true, [.int .i64, .int .i64, .int .i64, .int .i64, .int .i64]), (false, [.int .i64]), (false, [.int .i64])], [(true, [.int .i64, .int .i64, .int .i64, .int .i64])], false⟩)], pre, fn⟩) {P : List (List D) → Prop} {res : List (List D) → Nat → Nat → D}
    (hv : ∀ (a0 : Int) (a1 : Rows), ShR [.sl [.sl [.int .i64]], .sl [.int .i64]] a1 → P [[.i a0], [.l a1]] → ∃ (I0 : Int → Int → Prop) (m0 : Int → Int → Nat) (I1 : Int → Int → Int → Int → Int → Int → Rows → Int → Rows → Prop) (m1 : Int → Int → Int → Int → Int → Int → Rows → Int → Rows → Nat) (I2 : Int → Int → Int → Int → Int → Int → Rows → Int → Rows → Int → Int → Rows → Int → Rows → Prop) (m2 : Int → Int → Int → Int → Int → Int → Rows → Int → Rows → Int → Int → Rows → Int → Rows → Nat) (I3 : Int → Int → Int → Int → Int → Int → Rows → Int → Rows → Int → Rows → Int → Rows → Prop) (m3 : Int → Int → Int → Int → Int → Int → Rows → Int → Rows → Int → Rows → Int → Rows → Nat), V32 pre fn a0 a1 (res [[.i a0], [.l a1]]) I0 m0 I1 m1 I2 m2 I3 m3) :
    PureC (cxE ro) 32 ⟨[(false, [.int .i64]), (false, [.sl [.sl [.sl [.int .i64]], .sl [.int .i64]]])], [(true, [.sl [.int .i64, .int .i64, .int .i64, .int .i64, .int .i64, .int .i64, .int .i64, .int .i64], .int .i64, .sl [.int .i64, .int .i64, .int .i64, .int .i64]]), (false, [.int .i64])], false⟩ P res := by
  have hA := hE.A
  simp only [] at hA
  have hinl : ∀ f fn, inlL [(73, Tryz.f73), (107, Tryz.f107)] f = some fn → (cxE ro).fn f = some fn ∧ (cxE ro).ext f = none := Inls.ok (by repeat (first | exact .nil | refine .cons rfl rfl ?_))
  refine PureC.of_vc hE hinl 6 (f := 32) (fn := Tryz.f32) ⟨rfl, rfl⟩ ?_
  intro a0 a1 ha1 hP
  obtain ⟨R, hR⟩ : ∃ R, res [[.i a0], [.l a1]] = R := ⟨_, rfl⟩
  rw [hR]
  obtain ⟨I0, m0, I1, m1, I2, m2, I3, m3, hV⟩ := hv a0 a1 ha1 hP
  rw [hR] at hV
  clear hR hP hv
  cbv
  repeat' (first | (refine Br.mk (fun _ => ?_) (fun _ => ?_) <;> cbv) | (refine NilB.mk (fun _ => ?_) ?_ <;> cbv) | refine And.intro ?_ ?_ | exact True.intro)
  · subst hA; exact hV.g0
  · rename_i hp1_0
    subst hA; exact hV.g1 (df (nt hp1_0))
  · rename_i hp2_0
    subst hA; exact hV.g2 (df (nt hp2_0))
  · rename_i hp3_0
    subst hA; exact hV.g3 (df (nt hp3_0))
  · rename_i hp4_0
    subst hA; exact hV.g4 (df (nt hp4_0))
  · rename_i hp5_0
    subst hA; exact hV.g5 (dt (nf hp5_0))
  · rename_i hp6_0
    refine Leaf.gen fun σz hσz => ?_
    refine loopB hE hinl 6 [] [] [(6, [0])] (fun x : Int × Int => [.i x.1, D.l [[.i x.2]]]) (fun x => I0 x.1 x.2) (fun x => m0 x.1 x.2) (0, 0) (by subst hA; exact hV.i0 (dt (nf hp6_0))) ?_ ?_ <;> subst hσz
    · clear hE hinl hV; cbv; (try (repeat' (first | exact True.intro | rfl | assumption | apply And.intro)))
    · intro ⟨x0_0, x0_1⟩ hI0 K0 hK0
      cbv
      repeat' (first | (refine Br.mk (fun _ => ?_) (fun _ => ?_) <;> cbv) | (refine NilB.mk (fun _ => ?_) ?_ <;> cbv) | refine And.intro ?_ ?_ | exact True.intro)
      · rename_i hp7_0
        subst hA; exact hV.g7 _ _ hI0 (dt (nf hp6_0)) (dt hp7_0)
      · rename_i hp8_0
        subst hA; exact hV.g8 _ _ hI0 (dt (nf hp6_0)) (dt hp8_0)
      · rename_i hp9_0
        subst hA; exact hV.g9 _ _ hI0 (dt (nf hp6_0)) (dt hp9_0)
      · rename_i hp10_0
        subst hA; exact hV.g10 _ _ hI0 (dt (nf hp6_0)) (dt hp10_0)
      · rename_i hp11_0
        refine hK0 (A.add x0_0 1, A.add x0_1 (A.di (A.get (A.dl (fn 69 [[D.l a1], [D.nil]] 0 0)) (A.toNat x0_0) 0))) _ ?_ ?_ ?_
        · subst hA; exact (hV.n11 _ _ hI0 (dt (nf hp6_0)) (dt hp11_0)).1
        · subst hA; exact (hV.n11 _ _ hI0 (dt (nf hp6_0)) (dt hp11_0)).2
        · clear hE hinl hV hK0; cbv; (try (repeat' (first | exact True.intro | rfl | assumption | apply And.intro)))
      · rename_i hp12_0
        subst hA; exact hV.g12 _ _ hI0 (dt (nf hp6_0)) (df hp12_0)
      · rename_i hp13_0
        subst hA; exact hV.g13 _ _ hI0 (dt (nf hp6_0)) (df hp13_0)
      · rename_i hp14_0
        subst hA; exact hV.g14 _ _ hI0 (dt (nf hp6_0)) (df hp14_0)
      · rename_i hp15_0
        subst hA; exact hV.g15 _ _ hI0 (dt (nf hp6_0)) (df hp15_0)
      · rename_i hp16_0
        subst hA; exact hV.g16 _ _ hI0 (dt (nf hp6_0)) (df hp16_0)
      · rename_i hp17_0
        refine Leaf.gen fun σz hσz => ?_
        refine loopB hE hinl 6 [] [] [(12, [0, 0, 48])] (fun x : Int × Int × Int × Int × Rows × Int × Rows => [.i x.1, .i x.2.1, .i x.2.2.1, .i x.2.2.2.1, D.l [[.l x.2.2.2.2.1, .i x.2.2.2.2.2.1, .l x.2.2.2.2.2.2]]]) (fun x => I1 x0_0 x0_1 x.1 x.2.1 x.2.2.1 x.2.2.2.1 x.2.2.2.2.1 x.2.2.2.2.2.1 x.2.2.2.2.2.2) (fun x => m1 x0_0 x0_1 x.1 x.2.1 x.2.2.1 x.2.2.2.1 x.2.2.2.2.1 x.2.2.2.2.2.1 x.2.2.2.2.2.2) (0, -1, -1, 0, A.dl (fn 71 [[D.l [[D.i (A.di (fn 72 [] 0 0)), D.i (A.di (fn 72 [] 0 1)), D.i (A.di (fn 72 [] 0 2)), D.i (A.di (fn 72 [] 0 3)), D.i (A.di (fn 72 [] 0 4)), D.i (A.di (fn 72 [] 0 5)), D.i (A.di (fn 72 [] 0 6)), D.i (A.di (fn 72 [] 0 7))]]], [D.i (A.sub (A.add x0_1 (A.nat (A.len a1))) 1)]] 0 0), A.add a0 1, []) (by subst hA; exact hV.i1 _ _ hI0 (dt (nf hp6_0)) (df hp17_0)) ?_ ?_ <;> subst hσz
        · clear hE hinl hV; cbv; (try (repeat' (first | exact True.intro | rfl | assumption | apply And.intro)))
        · intro ⟨x1_0, x1_1, x1_2, x1_3, x1_4, x1_5, x1_6⟩ hI1 K1 hK1
          cbv
          repeat' (first | (refine Br.mk (fun _ => ?_) (fun _ => ?_) <;> cbv) | (refine NilB.mk (fun _ => ?_) ?_ <;> cbv) | refine And.intro ?_ ?_ | exact True.intro)
          · rename_i hp18_0
            subst hA; exact hV.g18 _ _ hI0 _ _ _ _ _ _ _ hI1 (dt (nf hp6_0)) (df hp17_0) (dt hp18_0)
          · rename_i hp19_0
            subst hA; exact hV.g19 _ _ hI0 _ _ _ _ _ _ _ hI1 (dt (nf hp6_0)) (df hp17_0) (dt hp19_0)
          · rename_i hp20_0
            refine Leaf.gen fun σz hσz => ?_
            refine loopB hE hinl 6 [] [] [(12, [0, 0, 48])] (fun x : Int × Int × Rows × Int × Rows => [.i x.1, .i x.2.1, D.l [[.l x.2.2.1, .i x.2.2.2.1, .l x.2.2.2.2]]]) (fun x => I2 x0_0 x0_1 x1_0 x1_1 x1_2 x1_3 x1_4 x1_5 x1_6 x.1 x.2.1 x.2.2.1 x.2.2.2.1 x.2.2.2.2) (fun x => m2 x0_0 x0_1 x1_0 x1_1 x1_2 x1_3 x1_4 x1_5 x1_6 x.1 x.2.1 x.2.2.1 x.2.2.2.1 x.2.2.2.2) (x1_0, 0, x1_4, x1_5, x1_6) (by subst hA; exact hV.i2 _ _ hI0 _ _ _ _ _ _ _ hI1 (dt (nf hp6_0)) (df hp17_0) (dt hp20_0)) ?_ ?_ <;> subst hσz
            · clear hE hinl hV; cbv; (try (repeat' (first | exact True.intro | rfl | assumption | apply And.intro)))
            · intro ⟨x2_0, x2_1, x2_2, x2_3, x2_4⟩ hI2 K2 hK2
              cbv
              repeat' (first | (refine Br.mk (fun _ => ?_) (fun _ => ?_) <;> cbv) | (refine NilB.mk (fun _ => ?_) ?_ <;> cbv) | refine And.intro ?_ ?_ | exact True.intro)
              · rename_i hp21_0
                subst hA; exact hV.g21 _ _ hI0 _ _ _ _ _ _ _ hI1 _ _ _ _ _ hI2 (dt (nf hp6_0)) (df hp17_0) (dt hp20_0) (dt hp21_0)
              · rename_i hp22_0
                subst hA; exact hV.g22 _ _ hI0 _ _ _ _ _ _ _ hI1 _ _ _ _ _ hI2 (dt (nf hp6_0)) (df hp17_0) (dt hp20_0) (dt hp22_0)
              · rename_i hp23_0
                subst hA; exact hV.g23 _ _ hI0 _ _ _ _ _ _ _ hI1 _ _ _ _ _ hI2 (dt (nf hp6_0)) (df hp17_0) (dt hp20_0) (dt hp23_0)
              · rename_i hp24_0
                subst hA; exact hV.g24 _ _ hI0 _ _ _ _ _ _ _ hI1 _ _ _ _ _ hI2 (dt (nf hp6_0)) (df hp17_0) (dt hp20_0) (dt hp24_0)
              · rename_i hp25_0
                subst hA; exact hV.g25 _ _ hI0 _ _ _ _ _ _ _ hI1 _ _ _ _ _ hI2 (dt (nf hp6_0)) (df hp17_0) (dt hp20_0) (dt hp25_0)
              · rename_i hp26_0
                subst hA; exact hV.g26 _ _ hI0 _ _ _ _ _ _ _ hI1 _ _ _ _ _ hI2 (dt (nf hp6_0)) (df hp17_0) (dt hp20_0) (dt hp26_0)
              · rename_i hp27_0
                subst hA; exact hV.g27 _ _ hI0 _ _ _ _ _ _ _ hI1 _ _ _ _ _ hI2 (dt (nf hp6_0)) (df hp17_0) (dt hp20_0) (dt hp27_0)
              · rename_i hp28_0
                subst hA; exact hV.g23 _ _ hI0 _ _ _ _ _ _ _ hI1 _ _ _ _ _ hI2 (dt (nf hp6_0)) (df hp17_0) (dt hp20_0) (dt hp28_0)
              · rename_i hp29_0
                subst hA; exact hV.g29 _ _ hI0 _ _ _ _ _ _ _ hI1 _ _ _ _ _ hI2 (dt (nf hp6_0)) (df hp17_0) (dt hp20_0) (dt hp29_0)
              · rename_i hp30_0
                subst hA; exact hV.g30 _ _ hI0 _ _ _ _ _ _ _ hI1 _ _ _ _ _ hI2 (dt (nf hp6_0)) (df hp17_0) (dt hp20_0) (dt hp30_0)
              · rename_i hp31_0
                subst hA; exact hV.g31 _ _ hI0 _ _ _ _ _ _ _ hI1 _ _ _ _ _ hI2 (dt (nf hp6_0)) (df hp17_0) (dt hp20_0) (dt hp31_0)
              · rename_i hp32_0
                subst hA; exact hV.g32 _ _ hI0 _ _ _ _ _ _ _ hI1 _ _ _ _ _ hI2 (dt (nf hp6_0)) (df hp17_0) (dt hp20_0) (dt hp32_0)
              · rename_i hp33_0
                subst hA; exact hV.g33 _ _ hI0 _ _ _ _ _ _ _ hI1 _ _ _ _ _ hI2 (dt (nf hp6_0)) (df hp17_0) (dt hp20_0) (dt hp33_0)
              · rename_i hp34_0
                subst hA; exact hV.g34 _ _ hI0 _ _ _ _ _ _ _ hI1 _ _ _ _ _ hI2 (dt (nf hp6_0)) (df hp17_0) (dt hp20_0) (dt hp34_0)
              · rename_i hp35_0
                refine hK2 (A.add x2_0 1, A.add x2_1 1, x2_2, x2_3, A.app (A.app x2_4 (A.dl (fn 74 [[D.i x1_3, D.i x2_1, D.i x2_0, D.i x1_1, D.i x1_2], [D.l (A.dl (A.get (A.dl (A.get a1 (A.toNat x1_3) 0)) (A.toNat x2_1) 0))]] 0 0))) [[D.i (A.di (fn 75 [[D.i x1_3, D.i x2_1, D.i x2_0, D.i x1_1, D.i x1_2], [D.i (A.di (fn 70 [[D.i x1_3], [D.i a0], [D.i x0_1]] 0 0))], [D.i (A.sub 1 (A.di (A.get (A.dl (A.get a1 (A.toNat x1_3) 1)) (A.toNat x2_1) 0)))]] 0 0)), D.i (A.di (fn 75 [[D.i x1_3, D.i x2_1, D.i x2_0, D.i x1_1, D.i x1_2], [D.i (A.di (fn 70 [[D.i x1_3], [D.i a0], [D.i x0_1]] 0 0))], [D.i (A.sub 1 (A.di (A.get (A.dl (A.get a1 (A.toNat x1_3) 1)) (A.toNat x2_1) 0)))]] 0 1)), D.i (A.di (fn 75 [[D.i x1_3, D.i x2_1, D.i x2_0, D.i x1_1, D.i x1_2], [D.i (A.di (fn 70 [[D.i x1_3], [D.i a0], [D.i x0_1]] 0 0))], [D.i (A.sub 1 (A.di (A.get (A.dl (A.get a1 (A.toNat x1_3) 1)) (A.toNat x2_1) 0)))]] 0 2)), D.i (A.di (fn 75 [[D.i x1_3, D.i x2_1, D.i x2_0, D.i x1_1, D.i x1_2], [D.i (A.di (fn 70 [[D.i x1_3], [D.i a0], [D.i x0_1]] 0 0))], [D.i (A.sub 1 (A.di (A.get (A.dl (A.get a1 (A.toNat x1_3) 1)) (A.toNat x2_1) 0)))]] 0 3))]]) _ ?_ ?_ ?_
                · subst hA; exact (hV.n35 _ _ hI0 _ _ _ _ _ _ _ hI1 _ _ _ _ _ hI2 (dt (nf hp6_0)) (df hp17_0) (dt hp20_0) (dt hp35_0)).1
                · subst hA; exact (hV.n35 _ _ hI0 _ _ _ _ _ _ _ hI1 _ _ _ _ _ hI2 (dt (nf hp6_0)) (df hp17_0) (dt hp20_0) (dt hp35_0)).2
                · clear hE hinl hV hK2; cbv; (try (repeat' (first | exact True.intro | rfl | assumption | apply And.intro)))
              · rename_i hp36_0
                subst hA; exact hV.g36 _ _ hI0 _ _ _ _ _ _ _ hI1 _ _ _ _ _ hI2 (dt (nf hp6_0)) (df hp17_0) (dt hp20_0) (df hp36_0)
              · rename_i hp37_0
                refine hK1 (x2_0, x1_0, 1, A.add x1_3 1, x2_2, x2_3, x2_4) _ ?_ ?_ ?_
                · subst hA; exact (hV.n37 _ _ hI0 _ _ _ _ _ _ _ hI1 _ _ _ _ _ hI2 (dt (nf hp6_0)) (df hp17_0) (dt hp20_0) (df hp37_0)).1
                · subst hA; exact (hV.n37 _ _ hI0 _ _ _ _ _ _ _ hI1 _ _ _ _ _ hI2 (dt (nf hp6_0)) (df hp17_0) (dt hp20_0) (df hp37_0)).2
                · clear hE hinl hV hK1; cbv; (try (repeat' (first | exact True.intro | rfl | assumption | apply And.intro)))
          · rename_i hp38_0
            subst hA; exact hV.g38 _ _ hI0 _ _ _ _ _ _ _ hI1 (dt (nf hp6_0)) (df hp17_0) (df hp38_0)
          · rename_i hp39_0
            refine Leaf.gen fun σz hσz => ?_
            refine loopB hE hinl 6 [] [] [(12, [0, 0, 48])] (fun x : Int × Rows × Int × Rows => [.i x.1, D.l [[.l x.2.1, .i x.2.2.1, .l x.2.2.2]]]) (fun x => I3 x0_0 x0_1 x1_0 x1_1 x1_2 x1_3 x1_4 x1_5 x1_6 x.1 x.2.1 x.2.2.1 x.2.2.2) (fun x => m3 x0_0 x0_1 x1_0 x1_1 x1_2 x1_3 x1_4 x1_5 x1_6 x.1 x.2.1 x.2.2.1 x.2.2.2) (0, x1_4, x1_5, x1_6) (by subst hA; exact hV.i3 _ _ hI0 _ _ _ _ _ _ _ hI1 (dt (nf hp6_0)) (df hp17_0) (df hp39_0)) ?_ ?_ <;> subst hσz
            · clear hE hinl hV; cbv; (try (repeat' (first | exact True.intro | rfl | assumption | apply And.intro)))
            · intro ⟨x3_0, x3_1, x3_2, x3_3⟩ hI3 K3 hK3
              cbv
              repeat' (first | (refine Br.mk (fun _ => ?_) (fun _ => ?_) <;> cbv) | (refine NilB.mk (fun _ => ?_) ?_ <;> cbv) | refine And.intro ?_ ?_ | exact True.intro)
              · rename_i hp40_0
                subst hA; exact hV.g40 _ _ hI0 _ _ _ _ _ _ _ hI1 _ _ _ _ hI3 (dt (nf hp6_0)) (df hp17_0) (df hp39_0) (dt hp40_0)
              · rename_i hp41_0
                subst hA; exact hV.g41 _ _ hI0 _ _ _ _ _ _ _ hI1 _ _ _ _ hI3 (dt (nf hp6_0)) (df hp17_0) (df hp39_0) (dt hp41_0)
              · rename_i hp42_0
                subst hA; exact hV.g42 _ _ hI0 _ _ _ _ _ _ _ hI1 _ _ _ _ hI3 (dt (nf hp6_0)) (df hp17_0) (df hp39_0) (dt hp42_0)
              · rename_i hp43_0
                subst hA; exact hV.g43 _ _ hI0 _ _ _ _ _ _ _ hI1 _ _ _ _ hI3 (dt (nf hp6_0)) (df hp17_0) (df hp39_0) (dt hp43_0)
              · rename_i hp44_0
                subst hA; exact hV.g41 _ _ hI0 _ _ _ _ _ _ _ hI1 _ _ _ _ hI3 (dt (nf hp6_0)) (df hp17_0) (df hp39_0) (dt hp44_0)
              · rename_i hp45_0
                refine hK3 (A.add x3_0 1, x3_1, x3_2, A.app x3_3 [[D.i (A.di (fn 70 [[D.i x3_0], [D.i a0], [D.i x0_1]] 0 0)), D.i (A.di (fn 70 [[D.i (A.add x3_0 1)], [D.i a0], [D.i x0_1]] 0 0)), D.i 1, D.i 1]]) _ ?_ ?_ ?_
                · subst hA; exact (hV.n45 _ _ hI0 _ _ _ _ _ _ _ hI1 _ _ _ _ hI3 (dt (nf hp6_0)) (df hp17_0) (df hp39_0) (dt hp45_0)).1
                · subst hA; exact (hV.n45 _ _ hI0 _ _ _ _ _ _ _ hI1 _ _ _ _ hI3 (dt (nf hp6_0)) (df hp17_0) (df hp39_0) (dt hp45_0)).2
                · clear hE hinl hV hK3; cbv; (try (repeat' (first | exact True.intro | rfl | assumption | apply And.intro)))
              · rename_i hp46_0
                subst hA; exact hV.g46 _ _ hI0 _ _ _ _ _ _ _ hI1 _ _ _ _ hI3 (dt (nf hp6_0)) (df hp17_0) (df hp39_0) (df hp46_0)
              · rename_i hp47_0
                subst hA; exact hV.g47 _ _ hI0 _ _ _ _ _ _ _ hI1 _ _ _ _ hI3 (dt (nf hp6_0)) (df hp17_0) (df hp39_0) (df hp47_0)
              · rename_i hp48_0
                subst hA; exact hV.g48 _ _ hI0 _ _ _ _ _ _ _ hI1 _ _ _ _ hI3 (dt (nf hp6_0)) (df hp17_0) (df hp39_0) (df hp48_0)
              · rename_i hp49_0
                subst hA; exact hV.g49 _ _ hI0 _ _ _ _ _ _ _ hI1 _ _ _ _ hI3 (dt (nf hp6_0)) (df hp17_0) (df hp39_0) (df hp49_0)
end HX

namespace HX
open Go Go.Proofs CX
set_option maxHeartbeats 4000000 in
set_option maxRecDepth 100000 in
theorem walk33 {ro A pre fn} (hE : EnvOk ⟨A, (cxE ro), ksF, sigL [(68, ⟨[(false, [.int .i64]), (false, [.sl [.sl [.sl [.int .i64]], .sl [.int .i64]]])], [(false, [.int .i64])], false⟩)], pre, fn⟩) {P : List (List D) → Prop} {res : List (List D) → Nat → Nat → D}
    (hv : ∀ (a0 : Int) (a1 : Rows), ShR [.sl [.sl [.int .i64]], .sl [.int .i64]] a1 → P [[.i a0], [.l a1]] → ∃ (I0 : Int → Int → Prop) (m0 : Int → Int → Nat) (I1 : Int → Int → Int → Rows → Int → Rows → Prop) (m1 : Int → Int → Int → Rows → Int → Rows → Nat) (I2 : Int → Int → Int → Rows → Int → Rows → Int → Int → Int → Rows → Prop) (m2 : Int → Int → Int → Rows → Int → Rows → Int → Int → Int → Rows → Nat) (I3 : Int → Int → Int → Rows → Int → Rows → Int → Int → Int → Rows → Int → Rows → Prop) (m3 : Int → Int → Int → Rows → Int → Rows → Int → Int → Int → Rows → Int → Rows → Nat) (I4 : Int → Int → Int → Rows → Int → Rows → Int → Int → Int → Rows → Int → Rows → Int → Rows → Prop) (m4 : Int → Int → Int → Rows → Int → Rows → Int → Int → Int → Rows → Int → Rows → Int → Rows → Nat) (I5 : Int → Int → Int → Rows → Int → Rows → Int → Int → Int → Rows → Int → Rows → Prop) (m5 : Int → Int → Int → Rows → Int → Rows → Int → Int → Int → Rows → Int → Rows → Nat), V33 pre fn a0 a1 (res [[.i a0], [.l a1]]) I0 m0 I1 m1 I2 m2 I3 m3 I4 m4 I5 m5) :
    PureC (cxE ro) 33 ⟨[(false, [.int .i64]), (false, [.sl [.sl [.sl [.int .i64]], .sl [.int .i64]]])], [(true, [.sl [.int .i64, .int .i64, .int .i64, .int .i64, .int .i64, .int .i64, .int .i64, .int .i64], .int .i64, .sl [.int .i64, .int .i64, .int .i64, .int .i64]]), (false, [.int .i64])], false⟩ P res := by
  have hA := hE.A
  simp only [] at hA
  have hinl : ∀ f fn, inlL [(76, Tryz.f76)] f = some fn → (cxE ro).fn f = some fn ∧ (cxE ro).ext f = none := Inls.ok (by repeat (first | exact .nil | refine .cons rfl rfl ?_))
  refine PureC.of_vc hE hinl 6 (f := 33) (fn := Tryz.f33) ⟨rfl, rfl⟩ ?_
  intro a0 a1 ha1 hP
  obtain ⟨R, hR⟩ : ∃ R, res [[.i a0], [.l a1]] = R := ⟨_, rfl⟩
  rw [hR]
  obtain ⟨I0, m0, I1, m1, I2, m2, I3, m3, I4, m4, I5, m5, hV⟩ := hv a0 a1 ha1 hP
  rw [hR] at hV
  clear hR hP hv
  cbv
  repeat' (first | (refine Br.mk (fun _ => ?_) (fun _ => ?_) <;> cbv) | (refine NilB.mk (fun _ => ?_) ?_ <;> cbv) | refine And.intro ?_ ?_ | exact True.intro)
  · subst hA; exact hV.g0
  · rename_i hp1_0
    subst hA; exact hV.g1 (df (nt hp1_0))
  · rename_i hp2_0
    subst hA; exact hV.g2 (df (nt hp2_0))
  · rename_i hp3_0
    subst hA; exact hV.g3 (df (nt hp3_0))
  · rename_i hp4_0
    subst hA; exact hV.g4 (df (nt hp4_0))
  · rename_i hp5_0
    refine Leaf.gen fun σz hσz => ?_
    refine loopB hE hinl 6 [] [] [] (fun x : Int × Int => [.i x.1, .i x.2]) (fun x => I0 x.1 x.2) (fun x => m0 x.1 x.2) (0, 0) (by subst hA; exact hV.i0 (dt (nf hp5_0))) ?_ ?_ <;> subst hσz
    · clear hE hinl hV; cbv; (try (repeat' (first | exact True.intro | rfl | assumption | apply And.intro)))
    · intro ⟨x0_0, x0_1⟩ hI0 K0 hK0
      cbv
      repeat' (first | (refine Br.mk (fun _ => ?_) (fun _ => ?_) <;> cbv) | (refine NilB.mk (fun _ => ?_) ?_ <;> cbv) | refine And.intro ?_ ?_ | exact True.intro)
      · rename_i hp6_0
        subst hA; exact hV.g6 _ _ hI0 (dt (nf hp5_0)) (dt hp6_0)
      · rename_i hp7_0
        subst hA; exact hV.g7 _ _ hI0 (dt (nf hp5_0)) (dt hp7_0)
      · rename_i hp8_0
        subst hA; exact hV.g8 _ _ hI0 (dt (nf hp5_0)) (dt hp8_0)
      · rename_i hp9_0
        subst hA; exact hV.g9 _ _ hI0 (dt (nf hp5_0)) (dt hp9_0)
      · rename_i hp10_0
        refine hK0 (A.add x0_0 (A.nat (A.len (A.dl (A.get a1 (A.toNat x0_1) 0)))), A.add x0_1 1) _ ?_ ?_ ?_
        · subst hA; exact (hV.n10 _ _ hI0 (dt (nf hp5_0)) (dt hp10_0)).1
        · subst hA; exact (hV.n10 _ _ hI0 (dt (nf hp5_0)) (dt hp10_0)).2
        · clear hE hinl hV hK0; cbv; (try (repeat' (first | exact True.intro | rfl | assumption | apply And.intro)))
      · rename_i hp11_0
        subst hA; exact hV.g11 _ _ hI0 (dt (nf hp5_0)) (df hp11_0)
      · rename_i hp12_0
        refine Leaf.gen fun σz hσz => ?_
        refine loopB hE hinl 6 [] [] [(4, [47, 0, 48])] (fun x : Int × Rows × Int × Rows => [.i x.1, D.l [[.l x.2.1, .i x.2.2.1, .l x.2.2.2]]]) (fun x => I1 x0_0 x0_1 x.1 x.2.1 x.2.2.1 x.2.2.2) (fun x => m1 x0_0 x0_1 x.1 x.2.1 x.2.2.1 x.2.2.2) (0, [], A.add a0 1, []) (by subst hA; exact hV.i1 _ _ hI0 (dt (nf hp5_0)) (df hp12_0)) ?_ ?_ <;> subst hσz
        · clear hE hinl hV; cbv; (try (repeat' (first | exact True.intro | rfl | assumption | apply And.intro)))
        · intro ⟨x1_0, x1_1, x1_2, x1_3⟩ hI1 K1 hK1
          cbv
          repeat' (first | (refine Br.mk (fun _ => ?_) (fun _ => ?_) <;> cbv) | (refine NilB.mk (fun _ => ?_) ?_ <;> cbv) | refine And.intro ?_ ?_ | exact True.intro)
          · subst hA; exact hV.g13 _ _ hI0 _ _ _ _ hI1 (dt (nf hp5_0)) (df hp12_0)
          · subst hA; exact hV.g14 _ _ hI0 _ _ _ _ hI1 (dt (nf hp5_0)) (df hp12_0)
          · rename_i hp15_0
            subst hA; exact hV.g15 _ _ hI0 _ _ _ _ hI1 (dt (nf hp5_0)) (df hp12_0) (dt hp15_0)
          · rename_i hp16_0
            subst hA; exact hV.g16 _ _ hI0 _ _ _ _ hI1 (dt (nf hp5_0)) (df hp12_0) (dt hp16_0)
          · rename_i hp17_0
            refine hK1 (A.add x1_0 1, A.app x1_1 [[D.i 2, D.i 256, D.i 0, D.i 1, D.i 0, D.i 0, D.i 0, D.i 0]], x1_2, x1_3) _ ?_ ?_ ?_
            · subst hA; exact (hV.n17 _ _ hI0 _ _ _ _ hI1 (dt (nf hp5_0)) (df hp12_0) (dt hp17_0)).1
            · subst hA; exact (hV.n17 _ _ hI0 _ _ _ _ hI1 (dt (nf hp5_0)) (df hp12_0) (dt hp17_0)).2
            · clear hE hinl hV hK1; cbv; (try (repeat' (first | exact True.intro | rfl | assumption | apply And.intro)))
          · rename_i hp18_0
            refine Leaf.gen fun σz hσz => ?_
            refine loopB hE hinl 6 [] [] [(7, [])] (fun x : Int × Int × Int × Rows => [.i x.1, .i x.2.1, .i x.2.2.1, .l x.2.2.2]) (fun x => I2 x0_0 x0_1 x1_0 x1_1 x1_2 x1_3 x.1 x.2.1 x.2.2.1 x.2.2.2) (fun x => m2 x0_0 x0_1 x1_0 x1_1 x1_2 x1_3 x.1 x.2.1 x.2.2.1 x.2.2.2) (0, 0, 0, x1_3) (by subst hA; exact hV.i2 _ _ hI0 _ _ _ _ hI1 (dt (nf hp5_0)) (df hp12_0) (df hp18_0)) ?_ ?_ <;> subst hσz
            · clear hE hinl hV; cbv; (try (repeat' (first | exact True.intro | rfl | assumption | apply And.intro)))
            · intro ⟨x2_0, x2_1, x2_2, x2_3⟩ hI2 K2 hK2
              cbv
              repeat' (first | (refine Br.mk (fun _ => ?_) (fun _ => ?_) <;> cbv) | (refine NilB.mk (fun _ => ?_) ?_ <;> cbv) | refine And.intro ?_ ?_ | exact True.intro)
              · rename_i hp19_0
                refine Leaf.gen fun σz hσz => ?_
                refine loopB hE hinl 6 [] [] [(7, [])] (fun x : Int × Rows => [.i x.1, .l x.2]) (fun x => I3 x0_0 x0_1 x1_0 x1_1 x1_2 x1_3 x2_0 x2_1 x2_2 x2_3 x.1 x.2) (fun x => m3 x0_0 x0_1 x1_0 x1_1 x1_2 x1_3 x2_0 x2_1 x2_2 x2_3 x.1 x.2) (0, x2_3) (by subst hA; exact hV.i3 _ _ hI0 _ _ _ _ hI1 _ _ _ _ hI2 (dt (nf hp5_0)) (df hp12_0) (df hp18_0) (dt hp19_0)) ?_ ?_ <;> subst hσz
                · clear hE hinl hV; cbv; (try (repeat' (first | exact True.intro | rfl | assumption | apply And.intro)))
                · intro ⟨x3_0, x3_1⟩ hI3 K3 hK3
                  cbv
                  repeat' (first | (refine Br.mk (fun _ => ?_) (fun _ => ?_) <;> cbv) | (refine NilB.mk (fun _ => ?_) ?_ <;> cbv) | refine And.intro ?_ ?_ | exact True.intro)
                  · subst hA; exact hV.g20 _ _ hI0 _ _ _ _ hI1 _ _ _ _ hI2 _ _ hI3 (dt (nf hp5_0)) (df hp12_0) (df hp18_0) (dt hp19_0)
                  · subst hA; exact hV.g21 _ _ hI0 _ _ _ _ hI1 _ _ _ _ hI2 _ _ hI3 (dt (nf hp5_0)) (df hp12_0) (df hp18_0) (dt hp19_0)
                  · rename_i hp22_0
                    refine Leaf.gen fun σz hσz => ?_
                    refine loopB hE hinl 6 [] [] [(7, [])] (fun x : Int × Rows => [.i x.1, .l x.2]) (fun x => I4 x0_0 x0_1 x1_0 x1_1 x1_2 x1_3 x2_0 x2_1 x2_2 x2_3 x3_0 x3_1 x.1 x.2) (fun x => m4 x0_0 x0_1 x1_0 x1_1 x1_2 x1_3 x2_0 x2_1 x2_2 x2_3 x3_0 x3_1 x.1 x.2) (0, x3_1) (by subst hA; exact hV.i4 _ _ hI0 _ _ _ _ hI1 _ _ _ _ hI2 _ _ hI3 (dt (nf hp5_0)) (df hp12_0) (df hp18_0) (dt hp19_0) (dt hp22_0)) ?_ ?_ <;> subst hσz
                    · clear hE hinl hV; cbv; (try (repeat' (first | exact True.intro | rfl | assumption | apply And.intro)))
                    · intro ⟨x4_0, x4_1⟩ hI4 K4 hK4
                      cbv
                      repeat' (first | (refine Br.mk (fun _ => ?_) (fun _ => ?_) <;> cbv) | (refine NilB.mk (fun _ => ?_) ?_ <;> cbv) | refine And.intro ?_ ?_ | exact True.intro)
                      · subst hA; exact hV.g23 _ _ hI0 _ _ _ _ hI1 _ _ _ _ hI2 _ _ hI3 _ _ hI4 (dt (nf hp5_0)) (df hp12_0) (df hp18_0) (dt hp19_0) (dt hp22_0)
                      · subst hA; exact hV.g24 _ _ hI0 _ _ _ _ hI1 _ _ _ _ hI2 _ _ hI3 _ _ hI4 (dt (nf hp5_0)) (df hp12_0) (df hp18_0) (dt hp19_0) (dt hp22_0)
                      · subst hA; exact hV.g25 _ _ hI0 _ _ _ _ hI1 _ _ _ _ hI2 _ _ hI3 _ _ hI4 (dt (nf hp5_0)) (df hp12_0) (df hp18_0) (dt hp19_0) (dt hp22_0)
                      · subst hA; exact hV.g26 _ _ hI0 _ _ _ _ hI1 _ _ _ _ hI2 _ _ hI3 _ _ hI4 (dt (nf hp5_0)) (df hp12_0) (df hp18_0) (dt hp19_0) (dt hp22_0)
                      · rename_i hp27_0
                        subst hA; exact hV.g27 _ _ hI0 _ _ _ _ hI1 _ _ _ _ hI2 _ _ hI3 _ _ hI4 (dt (nf hp5_0)) (df hp12_0) (df hp18_0) (dt hp19_0) (dt hp22_0) (dt hp27_0)
                      · rename_i hp28_0 hp28_1
                        subst hA; exact hV.g28 _ _ hI0 _ _ _ _ hI1 _ _ _ _ hI2 _ _ hI3 _ _ hI4 (dt (nf hp5_0)) (df hp12_0) (df hp18_0) (dt hp19_0) (dt hp22_0) (dt hp28_0) (dt hp28_1)
                      · rename_i hp29_0 hp29_1
                        subst hA; exact hV.g29 _ _ hI0 _ _ _ _ hI1 _ _ _ _ hI2 _ _ hI3 _ _ hI4 (dt (nf hp5_0)) (df hp12_0) (df hp18_0) (dt hp19_0) (dt hp22_0) (dt hp29_0) (dt hp29_1)
                      · rename_i hp30_0 hp30_1
                        subst hA; exact hV.g30 _ _ hI0 _ _ _ _ hI1 _ _ _ _ hI2 _ _ hI3 _ _ hI4 (dt (nf hp5_0)) (df hp12_0) (df hp18_0) (dt hp19_0) (dt hp22_0) (dt hp30_0) (dt hp30_1)
                      · rename_i hp31_0 hp31_1
                        subst hA; exact hV.g31 _ _ hI0 _ _ _ _ hI1 _ _ _ _ hI2 _ _ hI3 _ _ hI4 (dt (nf hp5_0)) (df hp12_0) (df hp18_0) (dt hp19_0) (dt hp22_0) (dt hp31_0) (dt hp31_1)
                      · rename_i hp32_0 hp32_1
                        subst hA; exact hV.g32 _ _ hI0 _ _ _ _ hI1 _ _ _ _ hI2 _ _ hI3 _ _ hI4 (dt (nf hp5_0)) (df hp12_0) (df hp18_0) (dt hp19_0) (dt hp22_0) (dt hp32_0) (dt hp32_1)
                      · rename_i hp33_0 hp33_1
                        subst hA; exact hV.g33 _ _ hI0 _ _ _ _ hI1 _ _ _ _ hI2 _ _ hI3 _ _ hI4 (dt (nf hp5_0)) (df hp12_0) (df hp18_0) (dt hp19_0) (dt hp22_0) (dt hp33_0) (dt hp33_1)
                      · rename_i hp34_0 hp34_1
                        subst hA; exact hV.g34 _ _ hI0 _ _ _ _ hI1 _ _ _ _ hI2 _ _ hI3 _ _ hI4 (dt (nf hp5_0)) (df hp12_0) (df hp18_0) (dt hp19_0) (dt hp22_0) (dt hp34_0) (dt hp34_1)
                      · rename_i hp35_0 hp35_1
                        subst hA; exact hV.g35 _ _ hI0 _ _ _ _ hI1 _ _ _ _ hI2 _ _ hI3 _ _ hI4 (dt (nf hp5_0)) (df hp12_0) (df hp18_0) (dt hp19_0) (dt hp22_0) (dt hp35_0) (dt hp35_1)
                      · rename_i hp36_0 hp36_1
                        subst hA; exact hV.g36 _ _ hI0 _ _ _ _ hI1 _ _ _ _ hI2 _ _ hI3 _ _ hI4 (dt (nf hp5_0)) (df hp12_0) (df hp18_0) (dt hp19_0) (dt hp22_0) (dt hp36_0) (dt hp36_1)
                      · rename_i hp37_0 hp37_1
                        subst hA; exact hV.g37 _ _ hI0 _ _ _ _ hI1 _ _ _ _ hI2 _ _ hI3 _ _ hI4 (dt (nf hp5_0)) (df hp12_0) (df hp18_0) (dt hp19_0) (dt hp22_0) (dt hp37_0) (dt hp37_1)
                      · rename_i hp38_0 hp38_1
                        refine hK4 (A.add x4_0 1, A.app x4_1 [[D.i (A.sub (-1) x4_0), D.i (A.add x2_1 x3_0), D.i (A.di (A.get (A.dl (A.get (A.dl (A.get a1 (A.toNat x2_2) 0)) (A.toNat x3_0) 0)) (A.toNat x4_0) 0)), D.i 1]]) _ ?_ ?_ ?_
                        · subst hA; exact (hV.n38 _ _ hI0 _ _ _ _ hI1 _ _ _ _ hI2 _ _ hI3 _ _ hI4 (dt (nf hp5_0)) (df hp12_0) (df hp18_0) (dt hp19_0) (dt hp22_0) (dt hp38_0) (dt hp38_1)).1
                        · subst hA; exact (hV.n38 _ _ hI0 _ _ _ _ hI1 _ _ _ _ hI2 _ _ hI3 _ _ hI4 (dt (nf hp5_0)) (df hp12_0) (df hp18_0) (dt hp19_0) (dt hp22_0) (dt hp38_0) (dt hp38_1)).2
                        · clear hE hinl hV hK4; cbv; (try (repeat' (first | exact True.intro | rfl | assumption | apply And.intro)))
                      · rename_i hp39_0 hp39_1
                        subst hA; exact hV.g39 _ _ hI0 _ _ _ _ hI1 _ _ _ _ hI2 _ _ hI3 _ _ hI4 (dt (nf hp5_0)) (df hp12_0) (df hp18_0) (dt hp19_0) (dt hp22_0) (dt hp39_0) (df hp39_1)
                      · rename_i hp40_0 hp40_1
                        subst hA; exact hV.g40 _ _ hI0 _ _ _ _ hI1 _ _ _ _ hI2 _ _ hI3 _ _ hI4 (dt (nf hp5_0)) (df hp12_0) (df hp18_0) (dt hp19_0) (dt hp22_0) (dt hp40_0) (df hp40_1)
                      · rename_i hp41_0 hp41_1
                        subst hA; exact hV.g41 _ _ hI0 _ _ _ _ hI1 _ _ _ _ hI2 _ _ hI3 _ _ hI4 (dt (nf hp5_0)) (df hp12_0) (df hp18_0) (dt hp19_0) (dt hp22_0) (dt hp41_0) (df hp41_1)
                      · rename_i hp42_0 hp42_1
                        subst hA; exact hV.g42 _ _ hI0 _ _ _ _ hI1 _ _ _ _ hI2 _ _ hI3 _ _ hI4 (dt (nf hp5_0)) (df hp12_0) (df hp18_0) (dt hp19_0) (dt hp22_0) (dt hp42_0) (df hp42_1)
                      · rename_i hp43_0 hp43_1
                        subst hA; exact hV.g43 _ _ hI0 _ _ _ _ hI1 _ _ _ _ hI2 _ _ hI3 _ _ hI4 (dt (nf hp5_0)) (df hp12_0) (df hp18_0) (dt hp19_0) (dt hp22_0) (dt hp43_0) (df hp43_1)
                      · rename_i hp44_0 hp44_1
                        subst hA; exact hV.g44 _ _ hI0 _ _ _ _ hI1 _ _ _ _ hI2 _ _ hI3 _ _ hI4 (dt (nf hp5_0)) (df hp12_0) (df hp18_0) (dt hp19_0) (dt hp22_0) (dt hp44_0) (df hp44_1)
                      · rename_i hp45_0 hp45_1
                        subst hA; exact hV.g45 _ _ hI0 _ _ _ _ hI1 _ _ _ _ hI2 _ _ hI3 _ _ hI4 (dt (nf hp5_0)) (df hp12_0) (df hp18_0) (dt hp19_0) (dt hp22_0) (dt hp45_0) (df hp45_1)
                      · rename_i hp46_0 hp46_1
                        subst hA; exact hV.g46 _ _ hI0 _ _ _ _ hI1 _ _ _ _ hI2 _ _ hI3 _ _ hI4 (dt (nf hp5_0)) (df hp12_0) (df hp18_0) (dt hp19_0) (dt hp22_0) (dt hp46_0) (df hp46_1)
                      · rename_i hp47_0 hp47_1
                        subst hA; exact hV.g47 _ _ hI0 _ _ _ _ hI1 _ _ _ _ hI2 _ _ hI3 _ _ hI4 (dt (nf hp5_0)) (df hp12_0) (df hp18_0) (dt hp19_0) (dt hp22_0) (dt hp47_0) (df hp47_1)
                      · rename_i hp48_0 hp48_1
                        refine hK4 (A.add x4_0 1, A.app x4_1 [[D.i (A.add x2_0 x4_0), D.i (A.add x2_1 x3_0), D.i (A.di (A.get (A.dl (A.get (A.dl (A.get a1 (A.toNat x2_2) 0)) (A.toNat x3_0) 0)) (A.toNat x4_0) 0)), D.i 1]]) _ ?_ ?_ ?_
                        · subst hA; exact (hV.n48 _ _ hI0 _ _ _ _ hI1 _ _ _ _ hI2 _ _ hI3 _ _ hI4 (dt (nf hp5_0)) (df hp12_0) (df hp18_0) (dt hp19_0) (dt hp22_0) (dt hp48_0) (df hp48_1)).1
                        · subst hA; exact (hV.n48 _ _ hI0 _ _ _ _ hI1 _ _ _ _ hI2 _ _ hI3 _ _ hI4 (dt (nf hp5_0)) (df hp12_0) (df hp18_0) (dt hp19_0) (dt hp22_0) (dt hp48_0) (df hp48_1)).2
                        · clear hE hinl hV hK4; cbv; (try (repeat' (first | exact True.intro | rfl | assumption | apply And.intro)))
                      · rename_i hp49_0
                        subst hA; exact hV.g49 _ _ hI0 _ _ _ _ hI1 _ _ _ _ hI2 _ _ hI3 _ _ hI4 (dt (nf hp5_0)) (df hp12_0) (df hp18_0) (dt hp19_0) (dt hp22_0) (df hp49_0)
                      · rename_i hp50_0
                        subst hA; exact hV.g50 _ _ hI0 _ _ _ _ hI1 _ _ _ _ hI2 _ _ hI3 _ _ hI4 (dt (nf hp5_0)) (df hp12_0) (df hp18_0) (dt hp19_0) (dt hp22_0) (df hp50_0)
                      · rename_i hp51_0 hp51_1
                        subst hA; exact hV.g51 _ _ hI0 _ _ _ _ hI1 _ _ _ _ hI2 _ _ hI3 _ _ hI4 (dt (nf hp5_0)) (df hp12_0) (df hp18_0) (dt hp19_0) (dt hp22_0) (df hp51_0) (dt hp51_1)
                      · rename_i hp52_0 hp52_1
                        subst hA; exact hV.g52 _ _ hI0 _ _ _ _ hI1 _ _ _ _ hI2 _ _ hI3 _ _ hI4 (dt (nf hp5_0)) (df hp12_0) (df hp18_0) (dt hp19_0) (dt hp22_0) (df hp52_0) (dt hp52_1)
                      · rename_i hp53_0 hp53_1
                        subst hA; exact hV.g53 _ _ hI0 _ _ _ _ hI1 _ _ _ _ hI2 _ _ hI3 _ _ hI4 (dt (nf hp5_0)) (df hp12_0) (df hp18_0) (dt hp19_0) (dt hp22_0) (df hp53_0) (dt hp53_1)
                      · rename_i hp54_0 hp54_1
                        subst hA; exact hV.g54 _ _ hI0 _ _ _ _ hI1 _ _ _ _ hI2 _ _ hI3 _ _ hI4 (dt (nf hp5_0)) (df hp12_0) (df hp18_0) (dt hp19_0) (dt hp22_0) (df hp54_0) (dt hp54_1)
                      · rename_i hp55_0 hp55_1
                        subst hA; exact hV.g55 _ _ hI0 _ _ _ _ hI1 _ _ _ _ hI2 _ _ hI3 _ _ hI4 (dt (nf hp5_0)) (df hp12_0) (df hp18_0) (dt hp19_0) (dt hp22_0) (df hp55_0) (dt hp55_1)
                      · rename_i hp56_0 hp56_1
                        subst hA; exact hV.g56 _ _ hI0 _ _ _ _ hI1 _ _ _ _ hI2 _ _ hI3 _ _ hI4 (dt (nf hp5_0)) (df hp12_0) (df hp18_0) (dt hp19_0) (dt hp22_0) (df hp56_0) (dt hp56_1)
                      · rename_i hp57_0 hp57_1
                        subst hA; exact hV.g57 _ _ hI0 _ _ _ _ hI1 _ _ _ _ hI2 _ _ hI3 _ _ hI4 (dt (nf hp5_0)) (df hp12_0) (df hp18_0) (dt hp19_0) (dt hp22_0) (df hp57_0) (dt hp57_1)
                      · rename_i hp58_0 hp58_1
                        subst hA; exact hV.g58 _ _ hI0 _ _ _ _ hI1 _ _ _ _ hI2 _ _ hI3 _ _ hI4 (dt (nf hp5_0)) (df hp12_0) (df hp18_0) (dt hp19_0) (dt hp22_0) (df hp58_0) (dt hp58_1)
                      · rename_i hp59_0 hp59_1
                        subst hA; exact hV.g59 _ _ hI0 _ _ _ _ hI1 _ _ _ _ hI2 _ _ hI3 _ _ hI4 (dt (nf hp5_0)) (df hp12_0) (df hp18_0) (dt hp19_0) (dt hp22_0) (df hp59_0) (dt hp59_1)
                      · rename_i hp60_0 hp60_1
                        refine hK3 (A.add x3_0 1, A.app x4_1 [[D.i (A.sub (-1) a0), D.i (A.add x2_1 x3_0), D.i (A.sub 1 (A.di (A.get (A.dl (A.get a1 (A.toNat x2_2) 1)) (A.toNat x3_0) 0))), D.i 1]]) _ ?_ ?_ ?_
                        · subst hA; exact (hV.n60 _ _ hI0 _ _ _ _ hI1 _ _ _ _ hI2 _ _ hI3 _ _ hI4 (dt (nf hp5_0)) (df hp12_0) (df hp18_0) (dt hp19_0) (dt hp22_0) (df hp60_0) (dt hp60_1)).1
                        · subst hA; exact (hV.n60 _ _ hI0 _ _ _ _ hI1 _ _ _ _ hI2 _ _ hI3 _ _ hI4 (dt (nf hp5_0)) (df hp12_0) (df hp18_0) (dt hp19_0) (dt hp22_0) (df hp60_0) (dt hp60_1)).2
                        · clear hE hinl hV hK3; cbv; (try (repeat' (first | exact True.intro | rfl | assumption | apply And.intro)))
                      · rename_i hp61_0 hp61_1
                        subst hA; exact hV.g61 _ _ hI0 _ _ _ _ hI1 _ _ _ _ hI2 _ _ hI3 _ _ hI4 (dt (nf hp5_0)) (df hp12_0) (df hp18_0) (dt hp19_0) (dt hp22_0) (df hp61_0) (df hp61_1)
                      · rename_i hp62_0 hp62_1
                        subst hA; exact hV.g62 _ _ hI0 _ _ _ _ hI1 _ _ _ _ hI2 _ _ hI3 _ _ hI4 (dt (nf hp5_0)) (df hp12_0) (df hp18_0) (dt hp19_0) (dt hp22_0) (df hp62_0) (df hp62_1)
                      · rename_i hp63_0 hp63_1
                        subst hA; exact hV.g63 _ _ hI0 _ _ _ _ hI1 _ _ _ _ hI2 _ _ hI3 _ _ hI4 (dt (nf hp5_0)) (df hp12_0) (df hp18_0) (dt hp19_0) (dt hp22_0) (df hp63_0) (df hp63_1)
                      · rename_i hp64_0 hp64_1
                        subst hA; exact hV.g64 _ _ hI0 _ _ _ _ hI1 _ _ _ _ hI2 _ _ hI3 _ _ hI4 (dt (nf hp5_0)) (df hp12_0) (df hp18_0) (dt hp19_0) (dt hp22_0) (df hp64_0) (df hp64_1)
                      · rename_i hp65_0 hp65_1
                        subst hA; exact hV.g65 _ _ hI0 _ _ _ _ hI1 _ _ _ _ hI2 _ _ hI3 _ _ hI4 (dt (nf hp5_0)) (df hp12_0) (df hp18_0) (dt hp19_0) (dt hp22_0) (df hp65_0) (df hp65_1)
                      · rename_i hp66_0 hp66_1
                        subst hA; exact hV.g66 _ _ hI0 _ _ _ _ hI1 _ _ _ _ hI2 _ _ hI3 _ _ hI4 (dt (nf hp5_0)) (df hp12_0) (df hp18_0) (dt hp19_0) (dt hp22_0) (df hp66_0) (df hp66_1)
                      · rename_i hp67_0 hp67_1
                        subst hA; exact hV.g67 _ _ hI0 _ _ _ _ hI1 _ _ _ _ hI2 _ _ hI3 _ _ hI4 (dt (nf hp5_0)) (df hp12_0) (df hp18_0) (dt hp19_0) (dt hp22_0) (df hp67_0) (df hp67_1)
                      · rename_i hp68_0 hp68_1
                        subst hA; exact hV.g68 _ _ hI0 _ _ _ _ hI1 _ _ _ _ hI2 _ _ hI3 _ _ hI4 (dt (nf hp5_0)) (df hp12_0) (df hp18_0) (dt hp19_0) (dt hp22_0) (df hp68_0) (df hp68_1)
                      · rename_i hp69_0 hp69_1
                        refine hK3 (A.add x3_0 1, A.app x4_1 [[D.i (A.sub (A.add x0_0 x2_2) 1), D.i (A.add x2_1 x3_0), D.i (A.sub 1 (A.di (A.get (A.dl (A.get a1 (A.toNat x2_2) 1)) (A.toNat x3_0) 0))), D.i 1]]) _ ?_ ?_ ?_
                        · subst hA; exact (hV.n69 _ _ hI0 _ _ _ _ hI1 _ _ _ _ hI2 _ _ hI3 _ _ hI4 (dt (nf hp5_0)) (df hp12_0) (df hp18_0) (dt hp19_0) (dt hp22_0) (df hp69_0) (df hp69_1)).1
                        · subst hA; exact (hV.n69 _ _ hI0 _ _ _ _ hI1 _ _ _ _ hI2 _ _ hI3 _ _ hI4 (dt (nf hp5_0)) (df hp12_0) (df hp18_0) (dt hp19_0) (dt hp22_0) (df hp69_0) (df hp69_1)).2
                        · clear hE hinl hV hK3; cbv; (try (repeat' (first | exact True.intro | rfl | assumption | apply And.intro)))
                  · rename_i hp70_0
                    subst hA; exact hV.g70 _ _ hI0 _ _ _ _ hI1 _ _ _ _ hI2 _ _ hI3 (dt (nf hp5_0)) (df hp12_0) (df hp18_0) (dt hp19_0) (df hp70_0)
                  · rename_i hp71_0
                    subst hA; exact hV.g71 _ _ hI0 _ _ _ _ hI1 _ _ _ _ hI2 _ _ hI3 (dt (nf hp5_0)) (df hp12_0) (df hp18_0) (dt hp19_0) (df hp71_0)
                  · rename_i hp72_0
                    subst hA; exact hV.g72 _ _ hI0 _ _ _ _ hI1 _ _ _ _ hI2 _ _ hI3 (dt (nf hp5_0)) (df hp12_0) (df hp18_0) (dt hp19_0) (df hp72_0)
                  · rename_i hp73_0
                    subst hA; exact hV.g73 _ _ hI0 _ _ _ _ hI1 _ _ _ _ hI2 _ _ hI3 (dt (nf hp5_0)) (df hp12_0) (df hp18_0) (dt hp19_0) (df hp73_0)
                  · rename_i hp74_0
                    refine hK2 (x2_1, A.add x2_1 (A.nat (A.len (A.dl (A.get a1 (A.toNat x2_2) 0)))), A.add x2_2 1, x3_1) _ ?_ ?_ ?_
                    · subst hA; exact (hV.n74 _ _ hI0 _ _ _ _ hI1 _ _ _ _ hI2 _ _ hI3 (dt (nf hp5_0)) (df hp12_0) (df hp18_0) (dt hp19_0) (df hp74_0)).1
                    · subst hA; exact (hV.n74 _ _ hI0 _ _ _ _ hI1 _ _ _ _ hI2 _ _ hI3 (dt (nf hp5_0)) (df hp12_0) (df hp18_0) (dt hp19_0) (df hp74_0)).2
                    · clear hE hinl hV hK2; cbv; (try (repeat' (first | exact True.intro | rfl | assumption | apply And.intro)))
              · rename_i hp75_0
                refine Leaf.gen fun σz hσz => ?_
                refine loopB hE hinl 6 [] [] [(7, [])] (fun x : Int × Rows => [.i x.1, .l x.2]) (fun x => I5 x0_0 x0_1 x1_0 x1_1 x1_2 x1_3 x2_0 x2_1 x2_2 x2_3 x.1 x.2) (fun x => m5 x0_0 x0_1 x1_0 x1_1 x1_2 x1_3 x2_0 x2_1 x2_2 x2_3 x.1 x.2) (0, x2_3) (by subst hA; exact hV.i5 _ _ hI0 _ _ _ _ hI1 _ _ _ _ hI2 (dt (nf hp5_0)) (df hp12_0) (df hp18_0) (df hp75_0)) ?_ ?_ <;> subst hσz
                · clear hE hinl hV; cbv; (try (repeat' (first | exact True.intro | rfl | assumption | apply And.intro)))
                · intro ⟨x5_0, x5_1⟩ hI5 K5 hK5
                  cbv
                  repeat' (first | (refine Br.mk (fun _ => ?_) (fun _ => ?_) <;> cbv) | (refine NilB.mk (fun _ => ?_) ?_ <;> cbv) | refine And.intro ?_ ?_ | exact True.intro)
                  · subst hA; exact hV.g76 _ _ hI0 _ _ _ _ hI1 _ _ _ _ hI2 _ _ hI5 (dt (nf hp5_0)) (df hp12_0) (df hp18_0) (df hp75_0)
                  · rename_i hp77_0
                    subst hA; exact hV.g77 _ _ hI0 _ _ _ _ hI1 _ _ _ _ hI2 _ _ hI5 (dt (nf hp5_0)) (df hp12_0) (df hp18_0) (df hp75_0) (dt hp77_0)
                  · rename_i hp78_0
                    subst hA; exact hV.g78 _ _ hI0 _ _ _ _ hI1 _ _ _ _ hI2 _ _ hI5 (dt (nf hp5_0)) (df hp12_0) (df hp18_0) (df hp75_0) (dt hp78_0)
                  · rename_i hp79_0 hp79_1
                    subst hA; exact hV.g79 _ _ hI0 _ _ _ _ hI1 _ _ _ _ hI2 _ _ hI5 (dt (nf hp5_0)) (df hp12_0) (df hp18_0) (df hp75_0) (dt hp79_0) (dt hp79_1)
                  · rename_i hp80_0 hp80_1
                    subst hA; exact hV.g80 _ _ hI0 _ _ _ _ hI1 _ _ _ _ hI2 _ _ hI5 (dt (nf hp5_0)) (df hp12_0) (df hp18_0) (df hp75_0) (dt hp80_0) (dt hp80_1)
                  · rename_i hp81_0 hp81_1
                    subst hA; exact hV.g81 _ _ hI0 _ _ _ _ hI1 _ _ _ _ hI2 _ _ hI5 (dt (nf hp5_0)) (df hp12_0) (df hp18_0) (df hp75_0) (dt hp81_0) (dt hp81_1)
                  · rename_i hp82_0 hp82_1
                    subst hA; exact hV.g82 _ _ hI0 _ _ _ _ hI1 _ _ _ _ hI2 _ _ hI5 (dt (nf hp5_0)) (df hp12_0) (df hp18_0) (df hp75_0) (dt hp82_0) (dt hp82_1)
                  · rename_i hp83_0 hp83_1
                    refine hK5 (A.add x5_0 1, A.app x5_1 [[D.i (A.sub (-1) a0), D.i (A.add x0_0 x5_0), D.i 1, D.i 1]]) _ ?_ ?_ ?_
                    · subst hA; exact (hV.n83 _ _ hI0 _ _ _ _ hI1 _ _ _ _ hI2 _ _ hI5 (dt (nf hp5_0)) (df hp12_0) (df hp18_0) (df hp75_0) (dt hp83_0) (dt hp83_1)).1
                    · subst hA; exact (hV.n83 _ _ hI0 _ _ _ _ hI1 _ _ _ _ hI2 _ _ hI5 (dt (nf hp5_0)) (df hp12_0) (df hp18_0) (df hp75_0) (dt hp83_0) (dt hp83_1)).2
                    · clear hE hinl hV hK5; cbv; (try (repeat' (first | exact True.intro | rfl | assumption | apply And.intro)))
                  · rename_i hp84_0 hp84_1
                    subst hA; exact hV.g84 _ _ hI0 _ _ _ _ hI1 _ _ _ _ hI2 _ _ hI5 (dt (nf hp5_0)) (df hp12_0) (df hp18_0) (df hp75_0) (dt hp84_0) (df hp84_1)
                  · rename_i hp85_0 hp85_1
                    subst hA; exact hV.g85 _ _ hI0 _ _ _ _ hI1 _ _ _ _ hI2 _ _ hI5 (dt (nf hp5_0)) (df hp12_0) (df hp18_0) (df hp75_0) (dt hp85_0) (df hp85_1)
                  · rename_i hp86_0 hp86_1
                    subst hA; exact hV.g86 _ _ hI0 _ _ _ _ hI1 _ _ _ _ hI2 _ _ hI5 (dt (nf hp5_0)) (df hp12_0) (df hp18_0) (df hp75_0) (dt hp86_0) (df hp86_1)
                  · rename_i hp87_0 hp87_1
                    refine hK5 (A.add x5_0 1, A.app x5_1 [[D.i (A.sub (A.add x0_0 x5_0) 1), D.i (A.add x0_0 x5_0), D.i 1, D.i 1]]) _ ?_ ?_ ?_
                    · subst hA; exact (hV.n87 _ _ hI0 _ _ _ _ hI1 _ _ _ _ hI2 _ _ hI5 (dt (nf hp5_0)) (df hp12_0) (df hp18_0) (df hp75_0) (dt hp87_0) (df hp87_1)).1
                    · subst hA; exact (hV.n87 _ _ hI0 _ _ _ _ hI1 _ _ _ _ hI2 _ _ hI5 (dt (nf hp5_0)) (df hp12_0) (df hp18_0) (df hp75_0) (dt hp87_0) (df hp87_1)).2
                    · clear hE hinl hV hK5; cbv; (try (repeat' (first | exact True.intro | rfl | assumption | apply And.intro)))
                  · rename_i hp88_0
                    subst hA; exact hV.g88 _ _ hI0 _ _ _ _ hI1 _ _ _ _ hI2 _ _ hI5 (dt (nf hp5_0)) (df hp12_0) (df hp18_0) (df hp75_0) (df hp88_0)
                  · rename_i hp89_0
                    subst hA; exact hV.g89 _ _ hI0 _ _ _ _ hI1 _ _ _ _ hI2 _ _ hI5 (dt (nf hp5_0)) (df hp12_0) (df hp18_0) (df hp75_0) (df hp89_0)
                  · rename_i hp90_0
                    subst hA; exact hV.g90 _ _ hI0 _ _ _ _ hI1 _ _ _ _ hI2 _ _ hI5 (dt (nf hp5_0)) (df hp12_0) (df hp18_0) (df hp75_0) (df hp90_0)
                  · rename_i hp91_0
                    subst hA; exact hV.g91 _ _ hI0 _ _ _ _ hI1 _ _ _ _ hI2 _ _ hI5 (dt (nf hp5_0)) (df hp12_0) (df hp18_0) (df hp75_0) (df hp91_0)
end HX

namespace HX
open Go Go.Proofs CX
def p105 : List (List D) → Prop
  | [[.l a]] => (cat a).length ≤ 4096
  | _ => False
def r105 : List (List D) → Nat → Nat → D
  | [[.l a]], _, _ => .l (cat a)
  | _, _, _ => .nil
def p65' : List (List D) → Prop
  | [[.l _, .l _], [.i n]] => n ≤ 30
  | _ => False
def r65 : List (List D) → Nat → Nat → D
  | [[.l w, .l t], [.i n]], _, _ => .i (lErr w t n)
  | _, _, _ => .nil
def r63 : List (List D) → Nat → Nat → D
  | [[.i n], [.l l], [.nil], [.nil]], _, _ => .i (netErr n l)
  | _, _, _ => .nil
def r68 : List (List D) → Nat → Nat → D
  | [[.i n], [.l l]], _, _ => .i (netErr n l)
  | _, _, _ => .nil
def p67 : List (List D) → Prop
  | [[.l w], [.l x], [.nil]] => dotBPre w x
  | _ => False
def r67 : List (List D) → Nat → Nat → D
  | [[.l w], [.l x], [.nil]], _, _ => .i (dotB w x 0)
  | _, _, _ => .nil
def p69 : List (List D) → Prop
  | [[.l l], [.nil]] => l.length ≤ 4096
  | _ => False
def r69 : List (List D) → Nat → Nat → D
  | [[.l l], [.nil]], _, _ => .l (szs l)
  | _, _, _ => .nil
def p106 : List (List D) → Prop
  | [[.i x], [.i y]] => x = 1 ∧ 0 ≤ y ∧ y ≤ 4096
  | _ => False
def r106 : List (List D) → Nat → Nat → D
  | [[.i _], [.i _]], 0, _ => .i 0
  | [[.i _], [.i y]], _, _ => .i y
  | _, _, _ => .nil
def p71 : List (List D) → Prop
  | [[.l l], [.i n]] => l.length = 1 ∧ 1 ≤ n ∧ n ≤ 400
  | _ => False
def r71 : List (List D) → Nat → Nat → D
  | [[.l l], [.i n]], _, _ => .l (List.replicate n.toNat (l.getD 0 []))
  | _, _, _ => .nil
def p74 : List (List D) → Prop
  | [[.i _, .i _, .i _, .i b, .i s], [.l w]] => joinsPre b s w
  | _ => False
def r74 : List (List D) → Nat → Nat → D
  | [[.i _, .i _, .i n, .i b, .i s], [.l w]], _, _ => .l (joinsL n b s w 0)
  | _, _, _ => .nil
def r28 : List (List D) → Nat → Nat → D
  | [[.l l]], 0, _ => if laysOk l then .l (cpy l) else .l []
  | [[.l l]], _, _ => .b (decide (laysOk l))
  | _, _, _ => .nil
def r29 : List (List D) → Nat → Nat → D
  | [[.l l], [.l x]], 0, _ => if netErr ((x.length : Nat) : Int) l = 0 then .l (nets l x) else .l []
  | [[.l l], [.l x]], _, _ => .i (netErr ((x.length : Nat) : Int) l)
  | _, _, _ => .nil
def r32 : List (List D) → Nat → Nat → D
  | [[.i a], [.l l]], 0, 0 => .l (cvN a l)
  | [[.i a], [.l l]], 0, 1 => .i (cvI a l)
  | [[.i a], [.l l]], 0, _ => .l (cvS a l)
  | [[.i a], [.l l]], _, _ => .i (netErr a l)
  | _, _, _ => .nil
abbrev tru : List (List D) → Prop := fun _ => True
noncomputable def c51 : Ctr := ⟨51, ⟨[BOU], [BOOL], false⟩, tru, holdRes⟩
noncomputable def c105 : Ctr := ⟨105, ⟨[(false, [.sl [.sl [.int .i64]]])], [(false, [.sl [.int .i64]])], false⟩, p105, r105⟩
noncomputable def c65 : Ctr := ⟨65, ⟨[(true, [.sl [.sl [.int .i64]], .sl [.int .i64]]), (false, [.int .i64])], [(false, [.int .i64])], false⟩, p65', r65⟩
noncomputable def c63 : Ctr := ⟨63, ⟨[(false, [.int .i64]), (false, [.sl [.sl [.sl [.int .i64]], .sl [.int .i64]]]), (false, [.fnc 64]), (false, [.fnc 65])], [(false, [.int .i64])], false⟩, tru, r63⟩
noncomputable def c67 : Ctr := ⟨67, ⟨[(false, [.sl [.int .i64]]), (false, [.sl [.bool]]), (false, [.fnc 66])], [(false, [.int .i64])], false⟩, p67, r67⟩
noncomputable def c68 : Ctr := ⟨68, ⟨[(false, [.int .i64]), (false, [.sl [.sl [.sl [.int .i64]], .sl [.int .i64]]])], [(false, [.int .i64])], false⟩, tru, r68⟩
noncomputable def c69 : Ctr := ⟨69, ⟨[(false, [.sl [.sl [.sl [.int .i64]], .sl [.int .i64]]]), (false, [.fnc 64])], [(false, [.sl [.int .i64]])], false⟩, p69, r69⟩
noncomputable def c106 : Ctr := ⟨106, ⟨[(false, [.int .u64]), (false, [.int .u64])], [(false, [.int .u64]), (false, [.int .u64])], false⟩, p106, r106⟩
noncomputable def c71 : Ctr := ⟨71, ⟨[(false, [.sl [.int .i64, .int .i64, .int .i64, .int .i64, .int .i64, .int .i64, .int .i64, .int .i64]]), (false, [.int .i64])], [(false, [.sl [.int .i64, .int .i64, .int .i64, .int .i64, .int .i64, .int .i64, .int .i64, .int .i64]])], false⟩, p71, r71⟩
noncomputable def c70 : Ctr := ⟨70, ⟨[(false, [.int .i64]), (false, [.pt (.int .i64)]), (false, [.pt (.int .i64)])], [(false, [.int .i64])], false⟩, p70, r70⟩
noncomputable def c72 : Ctr := ⟨72, ⟨[], [(true, [.int .i64, .int .i64, .int .i64, .int .i64, .int .i64, .int .i64, .int .i64, .int .i64])], false⟩, tru, r72⟩
noncomputable def c74 : Ctr := ⟨74, ⟨[(true, [.int .i64, .int .i64, .int .i64, .int .i64, .int .i64]), (false, [.sl [.int .i64]])], [(false, [.sl [.int .i64, .int .i64, .int .i64, .int .i64]])], false⟩, p74, r74⟩
noncomputable def c75 : Ctr := ⟨75, ⟨[(true, [.int .i64, .int .i64, .int .i64, .int .i64, .int .i64]), (false, [.int .i64]), (false, [.int .i64])], [(true, [.int .i64, .int .i64, .int .i64, .int .i64])], false⟩, tru, r75⟩
noncomputable def c28 : Ctr := ⟨28, ⟨[(false, [.sl [.sl [.sl [.int .i64]], .sl [.int .i64]]])], [(false, [.sl [.sl [.sl [.int .i64]], .sl [.int .i64]]]), (false, [.bool])], false⟩, tru, r28⟩
noncomputable def c29 : Ctr := ⟨29, ⟨[(false, [.sl [.sl [.sl [.int .i64]], .sl [.int .i64]]]), (false, [.sl [.bool]])], [(false, [.sl [.bool]]), (false, [.int .i64])], false⟩, tru, r29⟩
noncomputable def c30 : Ctr := ⟨30, ⟨[(false, [.sl [.sl [.sl [.int .i64]], .sl [.int .i64]]]), (false, [.sl [.bool]])], [(false, [.sl [.bool]]), (false, [.int .i64])], false⟩, tru, r29⟩
noncomputable def c32 : Ctr := ⟨32, ⟨[(false, [.int .i64]), (false, [.sl [.sl [.sl [.int .i64]], .sl [.int .i64]]])], [(true, [.sl [.int .i64, .int .i64, .int .i64, .int .i64, .int .i64, .int .i64, .int .i64, .int .i64], .int .i64, .sl [.int .i64, .int .i64, .int .i64, .int .i64]]), (false, [.int .i64])], false⟩, tru, r32⟩
noncomputable def c33 : Ctr := ⟨33, ⟨[(false, [.int .i64]), (false, [.sl [.sl [.sl [.int .i64]], .sl [.int .i64]]])], [(true, [.sl [.int .i64, .int .i64, .int .i64, .int .i64, .int .i64, .int .i64, .int .i64, .int .i64], .int .i64, .sl [.int .i64, .int .i64, .int .i64, .int .i64]]), (false, [.int .i64])], false⟩, tru, r32⟩
noncomputable def c18 : Ctr := ⟨18, ⟨[], [(false, [.bool])], false⟩, tru, (fun _ _ _ => .b true)⟩
noncomputable def c34 : Ctr := ⟨34, ⟨[NET, NET], [BOOL], false⟩, eqPre, yes⟩
noncomputable def c21 : Ctr := ⟨21, ⟨[EVS, EVS], [BOOL], false⟩, eqPre, yes⟩
noncomputable def c31 : Ctr := ⟨31, ⟨[BS, BS], [BOOL], false⟩, eqPre, yes⟩
noncomputable def c35 : Ctr := ⟨35, ⟨[BS, I64], [EVS, I64], false⟩, tru, presRes⟩
noncomputable def c36 : Ctr := ⟨36, ⟨[BS, I64], [EVS, I64], false⟩, tru, presRes⟩
section
variable (ro : Addr → Option V)
theorem k51 : PureC (cxE ro) c51.f c51.sg c51.pre c51.res := hold_pure (envL (l := []) .nil)
theorem k105 : PureC (cxE ro) c105.f c105.sg c105.pre c105.res := walk105 (envL (l := []) .nil) fun _ ha h => ⟨_, _, _, _, _, _, law105 h ha.2 rfl⟩
theorem k65 : PureC (cxE ro) c65.f c65.sg c65.pre c65.res := walk65 (envL (l := [c51, c105]) (.cons (k51 ro) (.cons (k105 ro) .nil))) fun _ _ _ _ _ h => ⟨_, _, _, _, _, _, _, _, _, _, law65 rfl rfl (fun _ => rfl) (fun _ => rfl) h rfl⟩
theorem k63 : PureC (cxE ro) c63.f c63.sg c63.pre c63.res := walk63 (envL (l := [c51, c65]) (.cons (k51 ro) (.cons (k65 ro) .nil))) fun _ _ _ _ => ⟨_, _, law63 rfl rfl (fun _ _ _ => rfl) (fun _ _ _ => rfl) rfl⟩
theorem k67 : PureC (cxE ro) c67.f c67.sg c67.pre c67.res := walk67 (envL (l := []) .nil) fun _ _ _ _ h => ⟨_, _, law67 h rfl⟩
theorem k68 : PureC (cxE ro) c68.f c68.sg c68.pre c68.res := walk68 (envL (l := []) .nil) fun _ _ _ _ => ⟨_, _, _, _, _, _, _, _, law68 rfl⟩
theorem k69 : PureC (cxE ro) c69.f c69.sg c69.pre c69.res := walk69 (envL (l := []) .nil) fun _ _ h => ⟨_, _, law69 h rfl⟩
theorem k106 : PureC (cxE ro) c106.f c106.sg c106.pre c106.res := walk106 (envL (l := []) .nil) fun _ _ h => law106 h.1 h.2 rfl rfl
theorem k71 : PureC (cxE ro) c71.f c71.sg c71.pre c71.res := walk71 (envL (l := [c106]) (.cons (k106 ro) .nil)) fun _ _ _ h => ⟨_, _, law71 h.1 h.2 (fun _ _ => rfl) (fun _ _ => rfl) (fun _ _ => rfl) rfl⟩
theorem k70 : PureC (cxE ro) c70.f c70.sg c70.pre c70.res := walk70 (envL (l := []) .nil) fun _ _ _ h => law70 h rfl
theorem k72 : PureC (cxE ro) c72.f c72.sg c72.pre c72.res := walk72 (envL (l := []) .nil) fun _ => ⟨rfl, rfl, rfl, rfl, rfl, rfl, rfl, rfl⟩
theorem k74 : PureC (cxE ro) c74.f c74.sg c74.pre c74.res := walk74 (envL (l := []) .nil) fun _ _ _ _ _ _ _ h => ⟨_, _, law74 h rfl⟩
theorem k75 : PureC (cxE ro) c75.f c75.sg c75.pre c75.res := walk75 (envL (l := []) .nil) fun _ _ _ _ _ _ _ _ => ⟨rfl, rfl, rfl, rfl⟩
theorem k28 : PureC (cxE ro) c28.f c28.sg c28.pre c28.res := walk28 (envL (l := []) .nil) fun _ _ _ => ⟨_, _, _, _, law28 rfl rfl⟩
theorem k29 : PureC (cxE ro) c29.f c29.sg c29.pre c29.res := walk29 (envL (l := [c63, c67]) (.cons (k63 ro) (.cons (k67 ro) .nil))) fun _ _ _ _ _ => ⟨_, _, _, _, law29 (fun _ _ => rfl) (fun _ _ => rfl) (fun _ _ => rfl) (fun _ _ => rfl) rfl rfl⟩
theorem k30 : PureC (cxE ro) c30.f c30.sg c30.pre c30.res := walk30 (envL (l := [c68]) (.cons (k68 ro) .nil)) fun _ _ _ _ _ => ⟨_, _, _, _, _, _, law30 (fun _ _ => rfl) (fun _ _ => rfl) rfl rfl⟩
theorem k32 : PureC (cxE ro) c32.f c32.sg c32.pre c32.res := walk32 (envL (l := [c63, c69, c70, c71, c72, c74, c75]) (.cons (k63 ro) (.cons (k69 ro) (.cons (k70 ro) (.cons (k71 ro) (.cons (k72 ro) (.cons (k74 ro) (.cons (k75 ro) .nil)))))))) fun _ _ _ _ => ⟨_, _, _, _, _, _, _, _, law32 (fun _ _ => rfl) (fun _ _ => rfl) (fun _ => rfl) (fun _ => rfl) rfl rfl (fun _ _ => rfl) (fun _ _ => rfl) (fun _ _ _ _ _ _ => rfl) (fun _ _ _ _ _ _ => rfl) rfl rfl (fun _ _ _ => rfl) (fun _ _ _ => rfl) rfl rfl rfl rfl⟩
theorem k33 : PureC (cxE ro) c33.f c33.sg c33.pre c33.res := walk33 (envL (l := [c68]) (.cons (k68 ro) .nil)) fun _ _ _ _ => ⟨_, _, _, _, _, _, _, _, _, _, _, _, law33 (fun _ _ => rfl) (fun _ _ => rfl) rfl rfl rfl rfl⟩
theorem k18 : PureC (cxE ro) c18.f c18.sg c18.pre c18.res := works_pure
theorem k34 : PureC (cxE ro) c34.f c34.sg c34.pre c34.res := nets_pure (envL (l := []) .nil)
theorem k21 : PureC (cxE ro) c21.f c21.sg c21.pre c21.res := events_pure (envL (l := []) .nil)
theorem k31 : PureC (cxE ro) c31.f c31.sg c31.pre c31.res := bools_pure (envL (l := []) .nil)
theorem k35 : PureC (cxE ro) c35.f c35.sg c35.pre c35.res := pres_pure (envL (l := [c51]) (.cons (k51 ro) .nil)) rfl rfl
theorem k36 : PureC (cxE ro) c36.f c36.sg c36.pre c36.res := presR_pure (envL (l := []) .nil)
end
noncomputable def l5 : List Ctr := [c18, c21, c28, c29, c30, c31, c32, c33, c34, c35, c36]
theorem k_l5 (ro : Addr → Option V) : Ctrs (cxE ro) l5 := (.cons (k18 ro) (.cons (k21 ro) (.cons (k28 ro) (.cons (k29 ro) (.cons (k30 ro) (.cons (k31 ro) (.cons (k32 ro) (.cons (k33 ro) (.cons (k34 ro) (.cons (k35 ro) (.cons (k36 ro) .nil)))))))))))
end HX

namespace HX
open Go Go.Proofs CX

theorem one_ShL {k : Kd} {ks : List Kd} (hk : k = .sl ks) {row : List D} (h : ShL [k] row) : row = [.l (lR row)] := by
  subst hk
  match row, h with
  | [a], h =>
    simp only [ShL, ShK] at h
    obtain ⟨⟨w, rfl, hw⟩, _⟩ := h
    rfl
theorem lay2_ShL {ks ks' : List Kd} {row : List D} (h : ShL [.sl ks, .sl ks'] row) : row = [.l (lR row), .l (lT row)] ∧ ShR ks (lR row) := by
  match row, h with
  | [a, b], h =>
    simp only [ShL, ShK] at h
    obtain ⟨⟨w, rfl, hw⟩, ⟨v, rfl, hv⟩, _⟩ := h
    exact ⟨rfl, hw⟩
theorem map_id' {l : Rows} {f : List D → List D} (h : ∀ r ∈ l, f r = r) : l.map f = l := by
  induction l with
  | nil => rfl
  | cons a l ih => rw [List.map_cons, h a (.head _), ih fun r hr => h r (.tail _ hr)]
theorem cpy_id {l : Rows} (h : ShR [.sl [.sl [.int .i64]], .sl [.int .i64]] l) : cpy l = l := by
  refine map_id' fun row hr => ?_
  obtain ⟨e, hw⟩ := lay2_ShL (h.1 row hr)
  have : cpu (lR row) = lR row := map_id' fun u hu => (one_ShL rfl (hw.1 u hu)).symm
  rw [this, ← e]

theorem law5 {pre : Nat → List (List D) → Prop} {fn : Nat → List (List D) → Nat → Nat → D} (hp18 : pre 18 []) (hf18 : fn 18 [] 0 0 = .b true)
    (hp28 : ∀ x, pre 28 x) (hf28 : ∀ l, fn 28 [[.l l]] 0 0 = if laysOk l then .l (cpy l) else .l []) (hf28' : ∀ l, fn 28 [[.l l]] 1 0 = .b (decide (laysOk l)))
    (hp29 : ∀ x, pre 29 x) (hp30 : ∀ x, pre 30 x) (hf29 : ∀ x, fn 29 x = fn 30 x) (hp31 : ∀ x, pre 31 [x, x]) (hf31 : ∀ x, fn 31 x 0 0 = .b true)
    (hp32 : ∀ x, pre 32 x) (hp33 : ∀ x, pre 33 x) (hf32 : ∀ x, fn 32 x = fn 33 x) (hp34 : ∀ x, pre 34 [x, x]) (hf34 : ∀ x, fn 34 x 0 0 = .b true)
    (hp35 : ∀ x, pre 35 x) (hp36 : ∀ x, pre 36 x) (hf35 : ∀ x, fn 35 x = fn 36 x) (hp21 : ∀ x, pre 21 [x, x]) (hf21 : ∀ x, fn 21 x 0 0 = .b true)
    {a0 : Int} {a1 a2 : Rows} {a3 : Int} (hsh : ShR [.sl [.sl [.int .i64]], .sl [.int .i64]] a1) {R : Nat → Nat → D} (hR : R 0 0 = .b true) : V5 pre fn a0 a1 a2 a3 R := by
  have hbool : ∀ b : Bool, (D.b b).boo = b := fun _ => rfl
  have key : (fn 28 [[.l a1]] 1 0).boo = true → fn 28 [[.l a1]] 0 0 = .l a1 := fun h => by
    rw [hf28'] at h
    rw [hf28, if_pos (of_decide_eq_true h), cpy_id hsh]
  have hrows : ∀ x : Rows, (D.l x).rows = x := fun _ => rfl
  constructor
  all_goals intros
  all_goals (try (have hk := key ‹_›; simp only [hk, hrows] at *))
  all_goals (simp only [hf29, hf32, hf35, hf31, hf34, hf21, hp28, hp29, hp30, hp32, hp33, hp35, hp36, hp31, hp34, hp21, hf18, hbool] at *)
  all_goals first
    | exact hR
    | exact hp18
    | contradiction
    | trivial
    | skip
theorem law5' {a0 : Int} {a1 a2 : Rows} {a3 : Int} (hsh : ShR [.sl [.sl [.int .i64]], .sl [.int .i64]] a1) : V5 (preOf l5) (resOf l5) a0 a1 a2 a3 (fun _ _ => .b true) := by
  refine law5 ?_ ?_ ?_ ?_ ?_ ?_ ?_ ?_ ?_ ?_ ?_ ?_ ?_ ?_ ?_ ?_ ?_ ?_ ?_ ?_ hsh rfl
  all_goals first
    | trivial
    | exact fun _ => trivial
    | rfl
    | exact fun _ => rfl
end HX

namespace Go.Proofs.YtlgaegbommfdmaaGreat.codeDecides
open Go.ChangeShapes Go.WideShapes Go.ChangeAt Go.RowKit HX

def ps : List (Bool × List Kd) := [(false, [.int .i64]), (false, [.sl [.sl [.sl [.int .i64]], .sl [.int .i64]]]), (false, [.sl [.bool]]), (false, [.int .i64])]
theorem law (ro : Addr → Option CX.V) : PureC0 (cxE ro) 5 ⟨ps, [(false, [.bool])], false⟩ (RngAll ps) trueRes := walk5 (envL (l := l5) (k_l5 ro)) fun _ _ _ _ h _ _ => law5' h

theorem lenN {α β : Type} {F : List α → β} {G : List α → β} (h : ∀ a b c d, F [a, b, c, d] = G [a, b, c, d]) : ∀ ds : List α, ds.length = 4 → F ds = G ds
  | [a, b, c, d], _ => h a b c d

set_option maxRecDepth 100000 in
set_option maxHeartbeats 400000 in
theorem lifted (os : Os) (started : os.Started) (H : Type) (enc : TypeId × Value → H) :
    ReturnsInHanded {} Tryz.checked os 5 .any (Rows.codeDecidesSpec.pre6 enc Tryz.prog Tryz.f5 Rows.codeDecidesRow.domain false) (Rows.codeDecidesSpec.post enc Tryz.prog Tryz.f5 false true false false) := by
  refine returnsInHanded_of_change (C := Tryz.checked) own started (by kernel_rfl) Tryz.func5
    (ChangeSpec.witness6 (enc := enc) (C := Tryz.checked) false ⟨#[], #[.int .i64 0, .slice none 0 0, .slice none 0 0, .int .i64 0], []⟩ 8 (by kernel_rfl) (by kernel_rfl) (by kernel_rfl) (by kernel_rfl)) ?_
  intro W base args ds gs before hval hW _ _
  exact said (f := Tryz.f5) (s := Rows.codeDecidesSpec) (n := 8) (tb := 4) cxE_ok law (by kernel_rfl) laid (by kernel_rfl) rfl Tryz.underlying4
    (lenN (F := Rows.codeDecidesSpec.fn H) (G := fun ds => ⟨[.lit (.bool true)], ds, []⟩) fun _ _ _ _ => rfl) rfl W base args ds gs before hval hW

theorem holds : Rows.CodeDecidesSaid :=
  OpenClaim.holds_of_wide 5 Tryz.f5 rfl rfl rfl rfl rfl rfl rfl ⟨rfl, rfl, rfl, rfl, rfl⟩ rfl rfl rfl rfl rfl (by kernel_rfl) Tryz.func5 (by kernel_rfl)
    (of_decide_eq_true (by kernel_rfl)) (by unfold Func.isWrapper; first | (rw [if_pos (by decide +kernel)]; kernel_rfl) | (rw [if_neg (by decide +kernel)]; exact ⟨rfl, rfl⟩))
    (fun os started H enc _ => lifted os started H enc)
end Go.Proofs.YtlgaegbommfdmaaGreat.codeDecides
