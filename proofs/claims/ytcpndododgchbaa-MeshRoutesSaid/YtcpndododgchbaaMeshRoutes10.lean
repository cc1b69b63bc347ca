/-
  MeshRoutes: for all meshes, routers and targets, the function returns true, and its arguments read as they did.
-/
import Derived.Test.YtcpndododgchbaaMeshRoutes9
import Derived.Test.YtcpndododgchbaaRows
set_option linter.all false
namespace HX
open Go Go.Proofs CX
set_option maxHeartbeats 4000000 in
set_option maxRecDepth 100000 in
theorem walk22 {ro A pre fn} (hE : EnvOk ⟨A, (cxE ro), ksF, sigL [(49, ⟨[(true, [.int .i64, .int .i64, .int .i64]), (false, [.sl [.int .i64]])], [(false, [.int .i64])], false⟩), (56, ⟨[(true, [.int .i64, .int .i64, .int .i64]), (false, [.int .i64]), (false, [.int .i64])], [(false, [.int .i64])], false⟩), (88, ⟨[(true, [.int .i64, .int .i64, .int .i64]), (false, [.int .i64]), (false, [.int .i64])], [(false, [.int .i64]), (false, [.bool])], false⟩)], pre, fn⟩) {P : List (List D) → Prop} {res : List (List D) → Nat → Nat → D}
    (hv : ∀ (a0_0 : Int) (a0_1 : Int) (a0_2 : Int) (a1 : Int) (a2 : Rows), ShR [.int .i64] a2 → P [[.i a0_0, .i a0_1, .i a0_2], [.i a1], [.l a2]] → ∃ (I0 : Int → Rows → Prop) (m0 : Int → Rows → Nat) (I1 : Int → Rows → Rows → Int → Prop) (m1 : Int → Rows → Rows → Int → Nat), V22 pre fn a0_0 a0_1 a0_2 a1 a2 (res [[.i a0_0, .i a0_1, .i a0_2], [.i a1], [.l a2]]) I0 m0 I1 m1) :
    PureC (cxE ro) 22 ⟨[(true, [.int .i64, .int .i64, .int .i64]), (false, [.int .i64]), (false, [.sl [.int .i64]])], [(false, [.sl [.int .i64]]), (false, [.int .i64])], false⟩ P res := by
  have hA := hE.A
  simp only [] at hA
  have hinl : ∀ f fn, inlL [(52, Try.f52), (87, Try.f87)] f = some fn → (cxE ro).fn f = some fn ∧ (cxE ro).ext f = none := Inls.ok (by repeat (first | exact .nil | refine .cons rfl rfl ?_))
  refine PureC.of_vc hE hinl 6 (f := 22) (fn := Try.f22) ⟨rfl, rfl⟩ ?_
  intro a0_0 a0_1 a0_2 a1 a2 ha2 hP
  obtain ⟨R, hR⟩ : ∃ R, res [[.i a0_0, .i a0_1, .i a0_2], [.i a1], [.l a2]] = R := ⟨_, rfl⟩
  rw [hR]
  obtain ⟨I0, m0, I1, m1, hV⟩ := hv a0_0 a0_1 a0_2 a1 a2 ha2 hP
  rw [hR] at hV
  clear hR hP hv
  cbv
  repeat' (first | (refine Br.mk (fun _ => ?_) (fun _ => ?_) <;> cbv) | (refine NilB.mk (fun _ => ?_) ?_ <;> cbv) | refine And.intro ?_ ?_ | exact True.intro)
  · subst hA; exact hV.g0
  · subst hA; exact hV.g1
  · rename_i hp2_0
    subst hA; exact hV.g2 (df (nt hp2_0))
  · rename_i hp3_0
    subst hA; exact hV.g3 (df (nt hp3_0))
  · rename_i hp4_0 hp4_1
    subst hA; exact hV.g4 (dt (nf hp4_0)) (dt hp4_1)
  · rename_i hp5_0 hp5_1
    subst hA; exact hV.g5 (dt (nf hp5_0)) (dt hp5_1)
  · rename_i hp6_0 hp6_1
    subst hA; exact hV.g6 (dt (nf hp6_0)) (df hp6_1)
  · rename_i hp7_0 hp7_1
    subst hA; exact hV.g7 (dt (nf hp7_0)) (df hp7_1)
  · rename_i hp8_0 hp8_1
    subst hA; exact hV.g8 (dt (nf hp8_0)) (df hp8_1)
  · rename_i hp9_0 hp9_1
    subst hA; exact hV.g9 (dt (nf hp9_0)) (df hp9_1)
  · rename_i hp10_0 hp10_1
    subst hA; exact hV.g10 (dt (nf hp10_0)) (df hp10_1)
  · rename_i hp11_0 hp11_1
    refine Leaf.gen fun σz hσz => ?_
    refine loopB hE hinl 6 [] [] [(5, [])] (fun x : Int × Rows => [.i x.1, .l x.2]) (fun x => I0 x.1 x.2) (fun x => m0 x.1 x.2) (0, A.rep (A.toNat (A.mul a0_0 a0_1)) [D.i 0]) (by subst hA; exact hV.i0 (dt (nf hp11_0)) (df hp11_1)) ?_ ?_ <;> subst hσz
    · clear hE hinl hV; cbv; (try (repeat' (first | exact True.intro | rfl | assumption | apply And.intro)))
    · intro ⟨x0_0, x0_1⟩ hI0 K0 hK0
      cbv
      repeat' (first | (refine Br.mk (fun _ => ?_) (fun _ => ?_) <;> cbv) | (refine NilB.mk (fun _ => ?_) ?_ <;> cbv) | refine And.intro ?_ ?_ | exact True.intro)
      · rename_i hp12_0
        subst hA; exact hV.g12 _ _ hI0 (dt (nf hp11_0)) (df hp11_1) (dt hp12_0)
      · rename_i hp13_0
        subst hA; exact hV.g13 _ _ hI0 (dt (nf hp11_0)) (df hp11_1) (dt hp13_0)
      · rename_i hp14_0
        subst hA; exact hV.g14 _ _ hI0 (dt (nf hp11_0)) (df hp11_1) (dt hp14_0)
      · rename_i hp15_0
        refine Leaf.gen fun σz hσz => ?_
        refine loopB hE hinl 6 [] [] [(5, []), (10, [0])] (fun x : Rows × Int => [.l x.1, D.l [[.i x.2]]]) (fun x => I1 x0_0 x0_1 x.1 x.2) (fun x => m1 x0_0 x0_1 x.1 x.2) (x0_1, a1) (by subst hA; exact hV.i1 _ _ hI0 (dt (nf hp11_0)) (df hp11_1) (dt hp15_0)) ?_ ?_ <;> subst hσz
        · clear hE hinl hV; cbv; (try (repeat' (first | exact True.intro | rfl | assumption | apply And.intro)))
        · intro ⟨x1_0, x1_1⟩ hI1 K1 hK1
          cbv
          repeat' (first | (refine Br.mk (fun _ => ?_) (fun _ => ?_) <;> cbv) | (refine NilB.mk (fun _ => ?_) ?_ <;> cbv) | refine And.intro ?_ ?_ | exact True.intro)
          · subst hA; exact hV.g16 _ _ hI0 _ _ hI1 (dt (nf hp11_0)) (df hp11_1) (dt hp15_0)
          · subst hA; exact hV.g17 _ _ hI0 _ _ hI1 (dt (nf hp11_0)) (df hp11_1) (dt hp15_0)
          · subst hA; exact hV.g18 _ _ hI0 _ _ hI1 (dt (nf hp11_0)) (df hp11_1) (dt hp15_0)
          · subst hA; exact hV.g18 _ _ hI0 _ _ hI1 (dt (nf hp11_0)) (df hp11_1) (dt hp15_0)
          · subst hA; exact hV.g20 _ _ hI0 _ _ hI1 (dt (nf hp11_0)) (df hp11_1) (dt hp15_0)
          · subst hA; exact hV.g16 _ _ hI0 _ _ hI1 (dt (nf hp11_0)) (df hp11_1) (dt hp15_0)
          · subst hA; exact hV.g17 _ _ hI0 _ _ hI1 (dt (nf hp11_0)) (df hp11_1) (dt hp15_0)
          · subst hA; exact hV.g18 _ _ hI0 _ _ hI1 (dt (nf hp11_0)) (df hp11_1) (dt hp15_0)
          · rename_i hp24_0
            subst hA; exact hV.g24 _ _ hI0 _ _ hI1 (dt (nf hp11_0)) (df hp11_1) (dt hp15_0) (df (nt hp24_0))
          · rename_i hp25_0
            subst hA; exact hV.g25 _ _ hI0 _ _ hI1 (dt (nf hp11_0)) (df hp11_1) (dt hp15_0) (df (nt hp25_0))
          · rename_i hp26_0
            refine hK1 (A.set x1_0 (A.toNat x1_1) [D.i (A.bit BinOp.or IntKind.i64 (A.di (A.get x1_0 (A.toNat x1_1) 0)) (A.di (fn 56 [[D.i a0_0, D.i a0_1, D.i a0_2], [D.i x1_1], [D.i (A.di (A.get a2 (A.toNat x0_0) 0))]] 0 0)))], A.di (fn 88 [[D.i a0_0, D.i a0_1, D.i a0_2], [D.i x1_1], [D.i (A.di (fn 56 [[D.i a0_0, D.i a0_1, D.i a0_2], [D.i x1_1], [D.i (A.di (A.get a2 (A.toNat x0_0) 0))]] 0 0))]] 0 0)) _ ?_ ?_ ?_
            · subst hA; exact (hV.n26 _ _ hI0 _ _ hI1 (dt (nf hp11_0)) (df hp11_1) (dt hp15_0) (df (nt hp26_0))).1
            · subst hA; exact (hV.n26 _ _ hI0 _ _ hI1 (dt (nf hp11_0)) (df hp11_1) (dt hp15_0) (df (nt hp26_0))).2
            · clear hE hinl hV hK1; cbv; (try (repeat' (first | exact True.intro | rfl | assumption | apply And.intro)))
          · rename_i hp27_0
            subst hA; exact hV.g27 _ _ hI0 _ _ hI1 (dt (nf hp11_0)) (df hp11_1) (dt hp15_0) (dt (nf hp27_0))
          · rename_i hp28_0
            refine hK0 (A.add x0_0 1, A.set x1_0 (A.toNat x1_1) [D.i (A.bit BinOp.or IntKind.i64 (A.di (A.get x1_0 (A.toNat x1_1) 0)) (A.di (fn 56 [[D.i a0_0, D.i a0_1, D.i a0_2], [D.i x1_1], [D.i (A.di (A.get a2 (A.toNat x0_0) 0))]] 0 0)))]) _ ?_ ?_ ?_
            · subst hA; exact (hV.n28 _ _ hI0 _ _ hI1 (dt (nf hp11_0)) (df hp11_1) (dt hp15_0) (dt (nf hp28_0))).1
            · subst hA; exact (hV.n28 _ _ hI0 _ _ hI1 (dt (nf hp11_0)) (df hp11_1) (dt hp15_0) (dt (nf hp28_0))).2
            · clear hE hinl hV hK0; cbv; (try (repeat' (first | exact True.intro | rfl | assumption | apply And.intro)))
      · rename_i hp29_0
        subst hA; exact hV.g29 _ _ hI0 (dt (nf hp11_0)) (df hp11_1) (df hp29_0)
      · rename_i hp30_0
        subst hA; exact hV.g30 _ _ hI0 (dt (nf hp11_0)) (df hp11_1) (df hp30_0)
end HX

namespace HX
open Go Go.Proofs CX
set_option maxHeartbeats 4000000 in
set_option maxRecDepth 100000 in
theorem walk23 {ro A pre fn} (hE : EnvOk ⟨A, (cxE ro), ksF, sigL [(53, ⟨[(true, [.int .i64, .int .i64, .int .i64]), (false, [.int .i64]), (false, [.int .i64])], [(false, [.int .i64])], false⟩), (20, ⟨[(true, [.int .i64, .int .i64, .int .i64]), (false, [.int .i64]), (false, [.int .i64])], [(false, [.sl [.int .i64]]), (false, [.int .i64])], false⟩), (55, ⟨[(true, [.int .i64, .int .i64, .int .i64]), (false, [.int .i64]), (false, [.int .i64])], [(false, [.int .i64])], false⟩)], pre, fn⟩) {P : List (List D) → Prop} {res : List (List D) → Nat → Nat → D}
    (hv : ∀ (a0_0 : Int) (a0_1 : Int) (a0_2 : Int) (a1 : Int) (a2 : Rows), ShR [.int .i64] a2 → P [[.i a0_0, .i a0_1, .i a0_2], [.i a1], [.l a2]] → ∃ (I0 : Int → Prop) (m0 : Int → Nat) (I1 : Int → Int → Rows → Prop) (m1 : Int → Int → Rows → Nat) (I2 : Int → Int → Rows → Int → Rows → Prop) (m2 : Int → Int → Rows → Int → Rows → Nat), V23 pre fn a0_0 a0_1 a0_2 a1 a2 (res [[.i a0_0, .i a0_1, .i a0_2], [.i a1], [.l a2]]) I0 m0 I1 m1 I2 m2) :
    PureC (cxE ro) 23 ⟨[(true, [.int .i64, .int .i64, .int .i64]), (false, [.int .i64]), (false, [.sl [.int .i64]])], [(false, [.sl [.int .i64]]), (false, [.int .i64])], false⟩ P res := by
  have hA := hE.A
  simp only [] at hA
  have hinl : ∀ f fn, inlL [(57, Try.f57)] f = some fn → (cxE ro).fn f = some fn ∧ (cxE ro).ext f = none := Inls.ok (by repeat (first | exact .nil | refine .cons rfl rfl ?_))
  refine PureC.of_vc hE hinl 6 (f := 23) (fn := Try.f23) ⟨rfl, rfl⟩ ?_
  intro a0_0 a0_1 a0_2 a1 a2 ha2 hP
  obtain ⟨R, hR⟩ : ∃ R, res [[.i a0_0, .i a0_1, .i a0_2], [.i a1], [.l a2]] = R := ⟨_, rfl⟩
  rw [hR]
  obtain ⟨I0, m0, I1, m1, I2, m2, hV⟩ := hv a0_0 a0_1 a0_2 a1 a2 ha2 hP
  rw [hR] at hV
  clear hR hP hv
  cbv
  repeat' (first | (refine Br.mk (fun _ => ?_) (fun _ => ?_) <;> cbv) | (refine NilB.mk (fun _ => ?_) ?_ <;> cbv) | refine And.intro ?_ ?_ | exact True.intro)
  · subst hA; exact hV.g0
  · rename_i hp1_0
    subst hA; exact hV.g1 (df (nt hp1_0))
  · rename_i hp2_0
    subst hA; exact hV.g2 (df (nt hp2_0))
  · rename_i hp3_0
    refine Leaf.gen fun σz hσz => ?_
    refine loopB hE hinl 6 [] [6, 7] [] (fun x : Int => [.i x]) (fun x => I0 x) (fun x => m0 x) (0) (by subst hA; exact hV.i0 (dt (nf hp3_0))) ?_ ?_ <;> subst hσz
    · clear hE hinl hV; cbv; (try (repeat' (first | exact True.intro | rfl | assumption | apply And.intro)))
    · intro x0_0 hI0 K0 hK0
      cbv
      repeat' (first | (refine Br.mk (fun _ => ?_) (fun _ => ?_) <;> cbv) | (refine NilB.mk (fun _ => ?_) ?_ <;> cbv) | refine And.intro ?_ ?_ | exact True.intro)
      · rename_i hp4_0
        subst hA; exact hV.g4 _ hI0 (dt (nf hp3_0)) (dt hp4_0)
      · rename_i hp5_0
        subst hA; exact hV.g5 _ hI0 (dt (nf hp3_0)) (dt hp5_0)
      · rename_i hp6_0
        subst hA; exact hV.g6 _ hI0 (dt (nf hp3_0)) (dt hp6_0)
      · rename_i hp7_0 hp7_1
        subst hA; exact hV.g7 _ hI0 (dt (nf hp3_0)) (dt hp7_0) (dt hp7_1)
      · rename_i hp8_0 hp8_1 hp8_2
        subst hA; exact hV.g8 _ hI0 (dt (nf hp3_0)) (dt hp8_0) (dt hp8_1) (df (nt hp8_2))
      · rename_i hp9_0 hp9_1 hp9_2
        subst hA; exact hV.g9 _ hI0 (dt (nf hp3_0)) (dt hp9_0) (dt hp9_1) (df (nt hp9_2))
      · rename_i hp10_0 hp10_1 hp10_2
        subst hA; exact hV.g10 _ hI0 (dt (nf hp3_0)) (dt hp10_0) (dt hp10_1) (dt (nf hp10_2))
      · rename_i hp11_0 hp11_1 hp11_2
        refine hK0 (A.add x0_0 1) _ ?_ ?_ ?_
        · subst hA; exact (hV.n11 _ hI0 (dt (nf hp3_0)) (dt hp11_0) (dt hp11_1) (dt (nf hp11_2))).1
        · subst hA; exact (hV.n11 _ hI0 (dt (nf hp3_0)) (dt hp11_0) (dt hp11_1) (dt (nf hp11_2))).2
        · clear hE hinl hV hK0; cbv; (try (repeat' (first | exact True.intro | rfl | assumption | apply And.intro)))
      · rename_i hp12_0 hp12_1
        subst hA; exact hV.g12 _ hI0 (dt (nf hp3_0)) (dt hp12_0) (df hp12_1)
      · rename_i hp13_0 hp13_1
        subst hA; exact hV.g13 _ hI0 (dt (nf hp3_0)) (dt hp13_0) (df hp13_1)
      · rename_i hp14_0 hp14_1
        subst hA; exact hV.g14 _ hI0 (dt (nf hp3_0)) (df hp14_0) (dt hp14_1)
      · rename_i hp15_0 hp15_1
        subst hA; exact hV.g15 _ hI0 (dt (nf hp3_0)) (df hp15_0) (dt hp15_1)
      · rename_i hp16_0 hp16_1
        subst hA; exact hV.g16 _ hI0 (dt (nf hp3_0)) (df hp16_0) (df hp16_1)
      · rename_i hp17_0 hp17_1
        subst hA; exact hV.g17 _ hI0 (dt (nf hp3_0)) (df hp17_0) (df hp17_1)
      · rename_i hp18_0 hp18_1
        subst hA; exact hV.g18 _ hI0 (dt (nf hp3_0)) (df hp18_0) (df hp18_1)
      · rename_i hp19_0 hp19_1
        subst hA; exact hV.g19 _ hI0 (dt (nf hp3_0)) (df hp19_0) (df hp19_1)
      · rename_i hp20_0 hp20_1
        subst hA; exact hV.g20 _ hI0 (dt (nf hp3_0)) (df hp20_0) (df hp20_1)
      · rename_i hp21_0 hp21_1
        refine Leaf.gen fun σz hσz => ?_
        refine loopB hE hinl 6 [] [] [(4, [])] (fun x : Int × Rows => [.i x.1, .l x.2]) (fun x => I1 x0_0 x.1 x.2) (fun x => m1 x0_0 x.1 x.2) (0, A.rep (A.toNat (A.mul a0_0 a0_1)) [D.i 0]) (by subst hA; exact hV.i1 _ hI0 (dt (nf hp3_0)) (df hp21_0) (df hp21_1)) ?_ ?_ <;> subst hσz
        · clear hE hinl hV; cbv; (try (repeat' (first | exact True.intro | rfl | assumption | apply And.intro)))
        · intro ⟨x1_0, x1_1⟩ hI1 K1 hK1
          cbv
          repeat' (first | (refine Br.mk (fun _ => ?_) (fun _ => ?_) <;> cbv) | (refine NilB.mk (fun _ => ?_) ?_ <;> cbv) | refine And.intro ?_ ?_ | exact True.intro)
          · rename_i hp22_0
            subst hA; exact hV.g22 _ hI0 _ _ hI1 (dt (nf hp3_0)) (df hp21_0) (df hp21_1) (dt hp22_0)
          · rename_i hp23_0
            subst hA; exact hV.g23 _ hI0 _ _ hI1 (dt (nf hp3_0)) (df hp21_0) (df hp21_1) (dt hp23_0)
          · rename_i hp24_0
            subst hA; exact hV.g24 _ hI0 _ _ hI1 (dt (nf hp3_0)) (df hp21_0) (df hp21_1) (dt hp24_0)
          · rename_i hp25_0
            subst hA; exact hV.g25 _ hI0 _ _ hI1 (dt (nf hp3_0)) (df hp21_0) (df hp21_1) (dt hp25_0)
          · rename_i hp26_0
            refine Leaf.gen fun σz hσz => ?_
            refine loopB hE hinl 6 [] [] [(4, [])] (fun x : Int × Rows => [.i x.1, .l x.2]) (fun x => I2 x0_0 x1_0 x1_1 x.1 x.2) (fun x => m2 x0_0 x1_0 x1_1 x.1 x.2) (0, x1_1) (by subst hA; exact hV.i2 _ hI0 _ _ hI1 (dt (nf hp3_0)) (df hp21_0) (df hp21_1) (dt hp26_0)) ?_ ?_ <;> subst hσz
            · clear hE hinl hV; cbv; (try (repeat' (first | exact True.intro | rfl | assumption | apply And.intro)))
            · intro ⟨x2_0, x2_1⟩ hI2 K2 hK2
              cbv
              repeat' (first | (refine Br.mk (fun _ => ?_) (fun _ => ?_) <;> cbv) | (refine NilB.mk (fun _ => ?_) ?_ <;> cbv) | refine And.intro ?_ ?_ | exact True.intro)
              · rename_i hp27_0
                subst hA; exact hV.g27 _ hI0 _ _ hI1 _ _ hI2 (dt (nf hp3_0)) (df hp21_0) (df hp21_1) (dt hp26_0) (dt hp27_0)
              · rename_i hp28_0
                subst hA; exact hV.g28 _ hI0 _ _ hI1 _ _ hI2 (dt (nf hp3_0)) (df hp21_0) (df hp21_1) (dt hp26_0) (dt hp28_0)
              · rename_i hp29_0
                subst hA; exact hV.g29 _ hI0 _ _ hI1 _ _ hI2 (dt (nf hp3_0)) (df hp21_0) (df hp21_1) (dt hp26_0) (dt hp29_0)
              · rename_i hp30_0
                subst hA; exact hV.g27 _ hI0 _ _ hI1 _ _ hI2 (dt (nf hp3_0)) (df hp21_0) (df hp21_1) (dt hp26_0) (dt hp30_0)
              · rename_i hp31_0
                subst hA; exact hV.g28 _ hI0 _ _ hI1 _ _ hI2 (dt (nf hp3_0)) (df hp21_0) (df hp21_1) (dt hp26_0) (dt hp31_0)
              · rename_i hp32_0
                subst hA; exact hV.g29 _ hI0 _ _ hI1 _ _ hI2 (dt (nf hp3_0)) (df hp21_0) (df hp21_1) (dt hp26_0) (dt hp32_0)
              · rename_i hp33_0
                subst hA; exact hV.g33 _ hI0 _ _ hI1 _ _ hI2 (dt (nf hp3_0)) (df hp21_0) (df hp21_1) (dt hp26_0) (dt hp33_0)
              · rename_i hp34_0
                subst hA; exact hV.g34 _ hI0 _ _ hI1 _ _ hI2 (dt (nf hp3_0)) (df hp21_0) (df hp21_1) (dt hp26_0) (dt hp34_0)
              · rename_i hp35_0
                subst hA; exact hV.g35 _ hI0 _ _ hI1 _ _ hI2 (dt (nf hp3_0)) (df hp21_0) (df hp21_1) (dt hp26_0) (dt hp35_0)
              · rename_i hp36_0
                subst hA; exact hV.g35 _ hI0 _ _ hI1 _ _ hI2 (dt (nf hp3_0)) (df hp21_0) (df hp21_1) (dt hp26_0) (dt hp36_0)
              · rename_i hp37_0
                subst hA; exact hV.g27 _ hI0 _ _ hI1 _ _ hI2 (dt (nf hp3_0)) (df hp21_0) (df hp21_1) (dt hp26_0) (dt hp37_0)
              · rename_i hp38_0
                subst hA; exact hV.g28 _ hI0 _ _ hI1 _ _ hI2 (dt (nf hp3_0)) (df hp21_0) (df hp21_1) (dt hp26_0) (dt hp38_0)
              · rename_i hp39_0
                subst hA; exact hV.g29 _ hI0 _ _ hI1 _ _ hI2 (dt (nf hp3_0)) (df hp21_0) (df hp21_1) (dt hp26_0) (dt hp39_0)
              · rename_i hp40_0
                subst hA; exact hV.g40 _ hI0 _ _ hI1 _ _ hI2 (dt (nf hp3_0)) (df hp21_0) (df hp21_1) (dt hp26_0) (dt hp40_0)
              · rename_i hp41_0
                subst hA; exact hV.g41 _ hI0 _ _ hI1 _ _ hI2 (dt (nf hp3_0)) (df hp21_0) (df hp21_1) (dt hp26_0) (dt hp41_0)
              · rename_i hp42_0
                subst hA; exact hV.g42 _ hI0 _ _ hI1 _ _ hI2 (dt (nf hp3_0)) (df hp21_0) (df hp21_1) (dt hp26_0) (dt hp42_0)
              · rename_i hp43_0
                subst hA; exact hV.g43 _ hI0 _ _ hI1 _ _ hI2 (dt (nf hp3_0)) (df hp21_0) (df hp21_1) (dt hp26_0) (dt hp43_0)
              · rename_i hp44_0
                subst hA; exact hV.g33 _ hI0 _ _ hI1 _ _ hI2 (dt (nf hp3_0)) (df hp21_0) (df hp21_1) (dt hp26_0) (dt hp44_0)
              · rename_i hp45_0
                subst hA; exact hV.g34 _ hI0 _ _ hI1 _ _ hI2 (dt (nf hp3_0)) (df hp21_0) (df hp21_1) (dt hp26_0) (dt hp45_0)
              · rename_i hp46_0
                subst hA; exact hV.g35 _ hI0 _ _ hI1 _ _ hI2 (dt (nf hp3_0)) (df hp21_0) (df hp21_1) (dt hp26_0) (dt hp46_0)
              · rename_i hp47_0
                subst hA; exact hV.g47 _ hI0 _ _ hI1 _ _ hI2 (dt (nf hp3_0)) (df hp21_0) (df hp21_1) (dt hp26_0) (dt hp47_0)
              · rename_i hp48_0
                refine hK2 (A.add x2_0 1, A.set x2_1 (A.toNat (A.di (A.get (A.dl (fn 20 [[D.i a0_0, D.i a0_1, D.i a0_2], [D.i a1], [D.i (A.di (A.get a2 (A.toNat x1_0) 0))]] 0 0)) (A.toNat x2_0) 0))) [D.i (A.bit BinOp.or IntKind.i64 (A.di (A.get x2_1 (A.toNat (A.di (A.get (A.dl (fn 20 [[D.i a0_0, D.i a0_1, D.i a0_2], [D.i a1], [D.i (A.di (A.get a2 (A.toNat x1_0) 0))]] 0 0)) (A.toNat x2_0) 0))) 0)) (A.di (fn 55 [[D.i a0_0, D.i a0_1, D.i a0_2], [D.i (A.di (A.get (A.dl (fn 20 [[D.i a0_0, D.i a0_1, D.i a0_2], [D.i a1], [D.i (A.di (A.get a2 (A.toNat x1_0) 0))]] 0 0)) (A.toNat x2_0) 0))], [D.i (A.di (A.get a2 (A.toNat x1_0) 0))]] 0 0)))]) _ ?_ ?_ ?_
                · subst hA; exact (hV.n48 _ hI0 _ _ hI1 _ _ hI2 (dt (nf hp3_0)) (df hp21_0) (df hp21_1) (dt hp26_0) (dt hp48_0)).1
                · subst hA; exact (hV.n48 _ hI0 _ _ hI1 _ _ hI2 (dt (nf hp3_0)) (df hp21_0) (df hp21_1) (dt hp26_0) (dt hp48_0)).2
                · clear hE hinl hV hK2; cbv; (try (repeat' (first | exact True.intro | rfl | assumption | apply And.intro)))
              · rename_i hp49_0
                subst hA; exact hV.g49 _ hI0 _ _ hI1 _ _ hI2 (dt (nf hp3_0)) (df hp21_0) (df hp21_1) (dt hp26_0) (df hp49_0)
              · rename_i hp50_0
                refine hK1 (A.add x1_0 1, x2_1) _ ?_ ?_ ?_
                · subst hA; exact (hV.n50 _ hI0 _ _ hI1 _ _ hI2 (dt (nf hp3_0)) (df hp21_0) (df hp21_1) (dt hp26_0) (df hp50_0)).1
                · subst hA; exact (hV.n50 _ hI0 _ _ hI1 _ _ hI2 (dt (nf hp3_0)) (df hp21_0) (df hp21_1) (dt hp26_0) (df hp50_0)).2
                · clear hE hinl hV hK1; cbv; (try (repeat' (first | exact True.intro | rfl | assumption | apply And.intro)))
          · rename_i hp51_0
            subst hA; exact hV.g51 _ hI0 _ _ hI1 (dt (nf hp3_0)) (df hp21_0) (df hp21_1) (df hp51_0)
          · rename_i hp52_0
            subst hA; exact hV.g52 _ hI0 _ _ hI1 (dt (nf hp3_0)) (df hp21_0) (df hp21_1) (df hp52_0)
end HX

namespace HX
open Go Go.Proofs CX
set_option maxHeartbeats 4000000 in
set_option maxRecDepth 100000 in
theorem walk21 {ro A pre fn} (hE : EnvOk ⟨A, (cxE ro), ksF, sigL [], pre, fn⟩) {P : List (List D) → Prop} {res : List (List D) → Nat → Nat → D}
    (hv : ∀ (a0 : Rows) (a1 : Rows), ShR [.int .i64] a0 → ShR [.int .i64] a1 → P [[.l a0], [.l a1]] → ∃ (I0 : Bool → Int → Prop) (m0 : Bool → Int → Nat), V21 a0 a1 (res [[.l a0], [.l a1]]) I0 m0) :
    PureC (cxE ro) 21 ⟨[(false, [.sl [.int .i64]]), (false, [.sl [.int .i64]])], [(false, [.bool])], false⟩ P res := by
  have hA := hE.A
  simp only [] at hA
  have hinl : ∀ f fn, inlL [] f = some fn → (cxE ro).fn f = some fn ∧ (cxE ro).ext f = none := Inls.ok (by repeat (first | exact .nil | refine .cons rfl rfl ?_))
  refine PureC.of_vc hE hinl 6 (f := 21) (fn := Try.f21) ⟨rfl, rfl⟩ ?_
  intro a0 ha0 a1 ha1 hP
  obtain ⟨R, hR⟩ : ∃ R, res [[.l a0], [.l a1]] = R := ⟨_, rfl⟩
  rw [hR]
  obtain ⟨I0, m0, hV⟩ := hv a0 a1 ha0 ha1 hP
  rw [hR] at hV
  clear hR hP hv
  cbv
  repeat' (first | (refine Br.mk (fun _ => ?_) (fun _ => ?_) <;> cbv) | (refine NilB.mk (fun _ => ?_) ?_ <;> cbv) | refine And.intro ?_ ?_ | exact True.intro)
  · rename_i hp0_0
    subst hA; exact hV.g0 (df (nt hp0_0))
  · rename_i hp1_0
    refine Leaf.gen fun σz hσz => ?_
    refine loopB hE hinl 6 [] [] [] (fun x : Bool × Int => [.b x.1, .i x.2]) (fun x => I0 x.1 x.2) (fun x => m0 x.1 x.2) (false, 0) (by subst hA; exact hV.i0 (dt (nf hp1_0))) ?_ ?_ <;> subst hσz
    · clear hE hinl hV; cbv; (try (repeat' (first | exact True.intro | rfl | assumption | apply And.intro)))
    · intro ⟨x0_0, x0_1⟩ hI0 K0 hK0
      cbv
      repeat' (first | (refine Br.mk (fun _ => ?_) (fun _ => ?_) <;> cbv) | (refine NilB.mk (fun _ => ?_) ?_ <;> cbv) | refine And.intro ?_ ?_ | exact True.intro)
      · rename_i hp2_0
        subst hA; exact hV.g2 _ _ hI0 (dt (nf hp1_0)) (dt hp2_0)
      · rename_i hp3_0
        subst hA; exact hV.g3 _ _ hI0 (dt (nf hp1_0)) (dt hp3_0)
      · rename_i hp4_0
        subst hA; exact hV.g4 _ _ hI0 (dt (nf hp1_0)) (dt hp4_0)
      · rename_i hp5_0
        subst hA; exact hV.g2 _ _ hI0 (dt (nf hp1_0)) (dt hp5_0)
      · rename_i hp6_0
        subst hA; exact hV.g6 _ _ hI0 (dt (nf hp1_0)) (dt hp6_0)
      · rename_i hp7_0
        subst hA; exact hV.g7 _ _ hI0 (dt (nf hp1_0)) (dt hp7_0)
      · rename_i hp8_0 hp8_1
        subst hA; exact hV.g8 _ _ hI0 (dt (nf hp1_0)) (dt hp8_0) (df (nt hp8_1))
      · rename_i hp9_0 hp9_1
        subst hA; exact hV.g9 _ _ hI0 (dt (nf hp1_0)) (dt hp9_0) (dt (nf hp9_1))
      · rename_i hp10_0 hp10_1
        refine hK0 (x0_0, A.add x0_1 1) _ ?_ ?_ ?_
        · subst hA; exact (hV.n10 _ _ hI0 (dt (nf hp1_0)) (dt hp10_0) (dt (nf hp10_1))).1
        · subst hA; exact (hV.n10 _ _ hI0 (dt (nf hp1_0)) (dt hp10_0) (dt (nf hp10_1))).2
        · clear hE hinl hV hK0; cbv; (try (repeat' (first | exact True.intro | rfl | assumption | apply And.intro)))
      · rename_i hp11_0
        subst hA; exact hV.g11 _ _ hI0 (dt (nf hp1_0)) (df hp11_0)
end HX

namespace HX
open Go Go.Proofs CX
def q17 : List (List D) → Nat → Nat → D
  | [[.i a, .i b, .i c]], _, _ => .i (chkS a b c)
  | _, _, _ => .nil
noncomputable def q49 : List (List D) → Nat → Nat → D
  | [[.i a, .i b, .i c], [.l l]], _, _ => .i (knE a b c l)
  | _, _, _ => .nil
def q50 : List (List D) → Nat → Nat → D
  | [[.i a, .i _, .i _], [.i k]], _, 0 => .i (Int.tmod k a)
  | [[.i a, .i _, .i _], [.i k]], _, _ => .i (Int.tdiv k a)
  | _, _, _ => .nil
def e50 : List (List D) → Prop
  | [[.i a, .i _, .i _], [.i k]] => (1 ≤ a ∧ a ≤ 8) ∧ 0 ≤ k ∧ k ≤ 64
  | _ => False
noncomputable def q53 : List (List D) → Nat → Nat → D
  | [[.i a, .i b, .i c], [.i r], [.i t]], _, _ => .i (knE a b c [[.i r], [.i t]])
  | _, _, _ => .nil
def q55 : List (List D) → Nat → Nat → D
  | [[.i a, .i _, .i _], [.i r], [.i t]], _, _ => .i (turnI a r t)
  | _, _, _ => .nil
def e55 : List (List D) → Prop
  | [[.i a, .i b, .i _], [.i r], [.i t]] => okM a b r ∧ okM a b t
  | _ => False
def q54 : List (List D) → Nat → Nat → D
  | [[.i a, .i _, .i _], [.i r], [.i o]], 0, _ => .i (ovI a r o)
  | [[.i _, .i _, .i _], [.i _], [.i _]], _, _ => .b true
  | _, _, _ => .nil
def e54 : List (List D) → Prop
  | [[.i a, .i b, .i _], [.i r], [.i o]] => okM a b r ∧ legO a b r o
  | _ => False
noncomputable def q15 : List (List D) → Nat → Nat → D
  | [[.i a, .i b, .i c], [.i r], [.i t]], 0, _ => .i (dsV a b c r t)
  | [[.i a, .i b, .i c], [.i r], [.i t]], _, _ => .i (knE a b c [[.i r], [.i t]])
  | _, _, _ => .nil
noncomputable def q20 : List (List D) → Nat → Nat → D
  | [[.i a, .i b, .i c], [.i r], [.i t]], 0, _ => .l (rtV a b c r t)
  | [[.i a, .i b, .i c], [.i r], [.i t]], _, _ => .i (knE a b c [[.i r], [.i t]])
  | _, _, _ => .nil
noncomputable def q22 : List (List D) → Nat → Nat → D
  | [[.i a, .i b, .i c], [.i r], [.l l]], 0, _ => .l (treV a b c r l)
  | [[.i a, .i b, .i c], [.i r], [.l l]], _, _ => .i (treE a b c r l)
  | _, _, _ => .nil
def e22 : List (List D) → Prop
  | [[.i _, .i _, .i _], [.i _], [.l l]] => l.length ≤ 100
  | _ => False
def e49 : List (List D) → Prop
  | [[.i _, .i _, .i _], [.l _]] => True
  | _ => True
def e21 : List (List D) → Prop
  | [[.l a], [.l b]] => a = b
  | _ => False
abbrev tru' : List (List D) → Prop := fun _ => True
noncomputable def c17 : Ctr := ⟨17, ⟨[(true, [.int .i64, .int .i64, .int .i64])], [(false, [.int .i64])], false⟩, tru', q17⟩
noncomputable def c18 : Ctr := ⟨18, ⟨[(true, [.int .i64, .int .i64, .int .i64])], [(false, [.int .i64])], false⟩, tru', q17⟩
noncomputable def c49 : Ctr := ⟨49, ⟨[(true, [.int .i64, .int .i64, .int .i64]), (false, [.sl [.int .i64]])], [(false, [.int .i64])], false⟩, tru', q49⟩
noncomputable def c50 : Ctr := ⟨50, ⟨[(true, [.int .i64, .int .i64, .int .i64]), (false, [.int .i64])], [(true, [.int .i64, .int .i64])], false⟩, e50, q50⟩
noncomputable def c53 : Ctr := ⟨53, ⟨[(true, [.int .i64, .int .i64, .int .i64]), (false, [.int .i64]), (false, [.int .i64])], [(false, [.int .i64])], false⟩, tru', q53⟩
noncomputable def c55 : Ctr := ⟨55, ⟨[(true, [.int .i64, .int .i64, .int .i64]), (false, [.int .i64]), (false, [.int .i64])], [(false, [.int .i64])], false⟩, e55, q55⟩
noncomputable def c54 : Ctr := ⟨54, ⟨[(true, [.int .i64, .int .i64, .int .i64]), (false, [.int .i64]), (false, [.int .i64])], [(false, [.int .i64])], false⟩, e54, q54⟩
noncomputable def c88 : Ctr := ⟨88, ⟨[(true, [.int .i64, .int .i64, .int .i64]), (false, [.int .i64]), (false, [.int .i64])], [(false, [.int .i64]), (false, [.bool])], false⟩, e54, q54⟩
noncomputable def c56 : Ctr := ⟨56, ⟨[(true, [.int .i64, .int .i64, .int .i64]), (false, [.int .i64]), (false, [.int .i64])], [(false, [.int .i64])], false⟩, e55, q55⟩
noncomputable def c15 : Ctr := ⟨15, ⟨[(true, [.int .i64, .int .i64, .int .i64]), (false, [.int .i64]), (false, [.int .i64])], [(false, [.int .i64]), (false, [.int .i64])], false⟩, tru', q15⟩
noncomputable def c20 : Ctr := ⟨20, ⟨[(true, [.int .i64, .int .i64, .int .i64]), (false, [.int .i64]), (false, [.int .i64])], [(false, [.sl [.int .i64]]), (false, [.int .i64])], false⟩, tru', q20⟩
noncomputable def c16 : Ctr := ⟨16, ⟨[(true, [.int .i64, .int .i64, .int .i64]), (false, [.int .i64]), (false, [.int .i64])], [(false, [.int .i64]), (false, [.int .i64])], false⟩, tru', q15⟩
noncomputable def c19 : Ctr := ⟨19, ⟨[(true, [.int .i64, .int .i64, .int .i64]), (false, [.int .i64]), (false, [.int .i64])], [(false, [.sl [.int .i64]]), (false, [.int .i64])], false⟩, tru', q20⟩
noncomputable def c22 : Ctr := ⟨22, ⟨[(true, [.int .i64, .int .i64, .int .i64]), (false, [.int .i64]), (false, [.sl [.int .i64]])], [(false, [.sl [.int .i64]]), (false, [.int .i64])], false⟩, e22, q22⟩
noncomputable def c23 : Ctr := ⟨23, ⟨[(true, [.int .i64, .int .i64, .int .i64]), (false, [.int .i64]), (false, [.sl [.int .i64]])], [(false, [.sl [.int .i64]]), (false, [.int .i64])], false⟩, tru', q22⟩
noncomputable def c21 : Ctr := ⟨21, ⟨[(false, [.sl [.int .i64]]), (false, [.sl [.int .i64]])], [(false, [.bool])], false⟩, e21, (fun _ _ _ => .b true)⟩
noncomputable def c13 : Ctr := ⟨13, ⟨[], [(false, [.bool])], false⟩, tru', (fun _ _ _ => .b true)⟩
section
variable (ro : Addr → Option V)
theorem k17 : PureC (cxE ro) c17.f c17.sg c17.pre c17.res := walk17 (envL (l := []) .nil) fun _ _ _ _ => law17 rfl
theorem k18 : PureC (cxE ro) c18.f c18.sg c18.pre c18.res := walk18 (envL (l := []) .nil) fun _ _ _ _ => law18 rfl
theorem k49 : PureC (cxE ro) c49.f c49.sg c49.pre c49.res := walk49 (envL (l := [c17]) (.cons (k17 ro) .nil)) fun _ _ _ _ ha _ => ⟨_, _, law49 (fun _ => trivial) (fun _ _ _ => rfl) ha.2 rfl⟩
theorem k50 : PureC (cxE ro) c50.f c50.sg c50.pre c50.res := walk50 (envL (l := []) .nil) fun _ _ _ _ h => law50 h rfl rfl
theorem k53 : PureC (cxE ro) c53.f c53.sg c53.pre c53.res := walk53 (envL (l := [c18]) (.cons (k18 ro) .nil)) fun _ _ _ _ _ _ => law53 (fun _ => trivial) (fun _ _ _ => rfl) rfl
theorem k55 : PureC (cxE ro) c55.f c55.sg c55.pre c55.res := walk55 (envL (l := []) .nil) fun _ _ _ _ _ h => law55 h.1 h.2 rfl
theorem k54 : PureC (cxE ro) c54.f c54.sg c54.pre c54.res := walk54 (envL (l := []) .nil) fun _ _ _ _ _ h => law54 h.1 h.2 rfl
theorem k88 : PureC (cxE ro) c88.f c88.sg c88.pre c88.res := walk88 (envL (l := []) .nil) fun _ _ _ _ _ h => law88 h.1 h.2 rfl rfl
theorem k56 : PureC (cxE ro) c56.f c56.sg c56.pre c56.res := walk56 (envL (l := [c50]) (.cons (k50 ro) .nil)) fun _ _ _ _ _ h => law56 (fun _ _ _ _ h1 h2 h3 => ⟨h1, h2, h3⟩) (fun _ _ _ _ => rfl) (fun _ _ _ _ => rfl) h.1 h.2 rfl
theorem k15 : PureC (cxE ro) c15.f c15.sg c15.pre c15.res := walk15 (envL (l := [c49, c50]) (.cons (k49 ro) (.cons (k50 ro) .nil))) fun _ _ _ _ _ _ => law15 (fun _ => trivial) (fun _ _ _ _ => rfl) (fun _ _ _ _ h1 h2 h3 => ⟨h1, h2, h3⟩) (fun _ _ _ _ => rfl) (fun _ _ _ _ => rfl) rfl rfl
theorem k20 : PureC (cxE ro) c20.f c20.sg c20.pre c20.res := walk20 (envL (l := [c53, c54, c55]) (.cons (k53 ro) (.cons (k54 ro) (.cons (k55 ro) .nil)))) fun _ _ _ _ _ _ => ⟨_, _, law20 (fun _ => trivial) (fun _ _ _ _ _ => rfl) (fun _ _ _ _ _ h1 h2 => ⟨h1, h2⟩) (fun _ _ _ _ _ => rfl) (fun _ _ _ _ _ h1 h2 => ⟨h1, h2⟩) (fun _ _ _ _ _ => rfl) rfl rfl⟩
theorem k16 : PureC (cxE ro) c16.f c16.sg c16.pre c16.res := walk16 (envL (l := [c20]) (.cons (k20 ro) .nil)) fun _ _ _ _ _ _ => law16 (fun _ => trivial) (fun _ _ _ _ _ => rfl) (fun _ _ _ _ _ => rfl) rfl rfl
theorem k19 : PureC (cxE ro) c19.f c19.sg c19.pre c19.res := walk19 (envL (l := [c49, c56, c88]) (.cons (k49 ro) (.cons (k56 ro) (.cons (k88 ro) .nil)))) fun _ _ _ _ _ _ => ⟨_, _, law19 (fun _ => trivial) (fun _ _ _ _ => rfl) (fun _ _ _ _ _ h1 h2 => ⟨h1, h2⟩) (fun _ _ _ _ _ => rfl) (fun _ _ _ _ _ h1 h2 => ⟨h1, h2⟩) (fun _ _ _ _ _ => rfl) rfl rfl⟩
theorem k22 : PureC (cxE ro) c22.f c22.sg c22.pre c22.res := walk22 (envL (l := [c49, c56, c88]) (.cons (k49 ro) (.cons (k56 ro) (.cons (k88 ro) .nil)))) fun _ _ _ _ _ _ h => ⟨_, _, _, _, law22 (fun _ => trivial) (fun _ _ _ _ => rfl) (fun _ _ _ _ _ h1 h2 => ⟨h1, h2⟩) (fun _ _ _ _ _ => rfl) (fun _ _ _ _ _ h1 h2 => ⟨h1, h2⟩) (fun _ _ _ _ _ => rfl) h rfl rfl⟩
theorem k23 : PureC (cxE ro) c23.f c23.sg c23.pre c23.res := walk23 (envL (l := [c53, c20, c55]) (.cons (k53 ro) (.cons (k20 ro) (.cons (k55 ro) .nil)))) fun _ _ _ _ _ ha _ => ⟨_, _, _, _, _, _, law23 (fun _ => trivial) (fun _ _ _ _ _ => rfl) (fun _ _ _ _ _ h1 h2 => ⟨h1, h2⟩) (fun _ _ _ _ _ => rfl) (fun _ => trivial) (fun _ _ _ _ _ => rfl) ha.2 rfl rfl⟩
theorem k21 : PureC (cxE ro) c21.f c21.sg c21.pre c21.res := walk21 (envL (l := []) .nil) fun _ _ ha _ h => ⟨_, _, law21 ha.2 h rfl⟩
theorem k13 : PureC (cxE ro) c13.f c13.sg c13.pre c13.res := works_pure
end
noncomputable def l3 : List Ctr := [c13, c15, c16, c17, c18, c19, c20, c21, c22, c23]
theorem k_l3 (ro : Addr → Option V) : Ctrs (cxE ro) l3 := (.cons (k13 ro) (.cons (k15 ro) (.cons (k16 ro) (.cons (k17 ro) (.cons (k18 ro) (.cons (k19 ro) (.cons (k20 ro) (.cons (k21 ro) (.cons (k22 ro) (.cons (k23 ro) .nil))))))))))
end HX

namespace HX
open Go Go.Proofs CX
theorem law3 {pre : Nat → List (List D) → Prop} {fn : Nat → List (List D) → Nat → Nat → D} (hp13 : pre 13 []) (hf13 : fn 13 [] 0 0 = .b true) (hp15 : ∀ x, pre 15 x) (hp16 : ∀ x, pre 16 x) (hp17 : ∀ x, pre 17 x) (hp18 : ∀ x, pre 18 x) (hp19 : ∀ x, pre 19 x) (hp20 : ∀ x, pre 20 x) (hp23 : ∀ x, pre 23 x)
    (hf15 : ∀ x, fn 15 x = fn 16 x) (hf17 : ∀ x, fn 17 x = fn 18 x) (hf19 : ∀ x, fn 19 x = fn 20 x) (hf22 : ∀ x, fn 22 x = fn 23 x) (hp22 : ∀ a b c s l, l.length ≤ 100 → pre 22 [[.i a, .i b, .i c], [.i s], [.l l]])
    (hp21 : ∀ x, pre 21 [[.l x], [.l x]]) (hf21 : ∀ x, fn 21 [[.l x], [.l x]] 0 0 = .b true) {a0_0 a0_1 a0_2 a1 a2 : Int} {a3 : Rows} {R : Nat → Nat → D} (hR : R 0 0 = .b true) : V3 pre fn a0_0 a0_1 a0_2 a1 a2 a3 R := by
  have hb : ∀ b : Bool, (D.b b).boo = b := fun _ => rfl
  constructor
  case g14 => intros; exact hp22 _ _ _ _ _ (by omega)
  all_goals intros
  all_goals (simp only [hf15, hf17, hf19, hf22, hf21, hp15, hp16, hp17, hp18, hp19, hp20, hp21, hp23, hf13, hb] at *)
  all_goals first
    | exact hR
    | exact hp13
    | contradiction
    | trivial
    | skip
theorem law3' {a0_0 a0_1 a0_2 a1 a2 : Int} {a3 : Rows} : V3 (preOf l3) (resOf l3) a0_0 a0_1 a0_2 a1 a2 a3 (fun _ _ => .b true) :=
  law3 trivial rfl (fun _ => trivial) (fun _ => trivial) (fun _ => trivial) (fun _ => trivial) (fun _ => trivial) (fun _ => trivial) (fun _ => trivial) (fun _ => rfl) (fun _ => rfl) (fun _ => rfl) (fun _ => rfl) (fun _ _ _ _ _ h => h) (fun _ => rfl) (fun _ => rfl) rfl
end HX

namespace Go.Proofs.Ytcpndododgchbaa.meshRoutes
open Go.ChangeShapes Go.WideShapes Go.ChangeAt Go.RowKit HX

def ps : List (Bool × List Kd) := [(true, [.int .i64, .int .i64, .int .i64]), (false, [.int .i64]), (false, [.int .i64]), (false, [.sl [.int .i64]])]
theorem law (ro : Addr → Option CX.V) : PureC0 (cxE ro) 3 ⟨ps, [(false, [.bool])], false⟩ (RngAll ps) trueRes := walk3 (envL (l := l3) (k_l3 ro)) fun _ _ _ _ _ _ _ _ => law3'

theorem lenN {α β : Type} {F : List α → β} {G : List α → β} (h : ∀ a b c d, F [a, b, c, d] = G [a, b, c, d]) : ∀ ds : List α, ds.length = 4 → F ds = G ds
  | [a, b, c, d], _ => h a b c d

set_option maxRecDepth 100000 in
set_option maxHeartbeats 400000 in
theorem lifted (os : Os) (started : os.Started) (H : Type) (enc : TypeId × Value → H) :
    ReturnsInHanded {} Try.checked os 3 .any (Rows.meshRoutesSpec.pre6 enc Try.prog Try.f3 Rows.meshRoutesRow.domain false) (Rows.meshRoutesSpec.post enc Try.prog Try.f3 false true false false) := by
  refine returnsInHanded_of_change (C := Try.checked) own started (by kernel_rfl) Try.func3
    (ChangeSpec.witness6 (enc := enc) (C := Try.checked) false ⟨#[], #[.agg #[.int .i64 0, .int .i64 0, .int .i64 0], .int .i64 0, .int .i64 0, .slice none 0 0], []⟩ 8 (by kernel_rfl) (by kernel_rfl) (by kernel_rfl) (by kernel_rfl)) ?_
  intro W base args ds gs before hval hW _ _
  exact said (f := Try.f3) (s := Rows.meshRoutesSpec) (n := 8) (tb := 4) cxE_ok law (by kernel_rfl) laid (by kernel_rfl) rfl Try.underlying4
    (lenN (F := Rows.meshRoutesSpec.fn H) (G := fun ds => ⟨[.lit (.bool true)], ds, []⟩) fun _ _ _ _ => rfl) rfl W base args ds gs before hval hW

theorem holds : Rows.MeshRoutesSaid :=
  OpenClaim.holds_of_wide 3 Try.f3 rfl rfl rfl rfl rfl rfl rfl ⟨rfl, rfl, rfl, rfl, rfl⟩ rfl rfl rfl rfl rfl (by kernel_rfl) Try.func3 (by kernel_rfl)
    (of_decide_eq_true (by kernel_rfl)) (by unfold Func.isWrapper; first | (rw [if_pos (by decide +kernel)]; kernel_rfl) | (rw [if_neg (by decide +kernel)]; exact ⟨rfl, rfl⟩))
    (fun os started H enc _ => lifted os started H enc)
end Go.Proofs.Ytcpndododgchbaa.meshRoutes
