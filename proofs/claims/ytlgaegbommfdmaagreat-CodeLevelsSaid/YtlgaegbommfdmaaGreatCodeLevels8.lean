/-
  CodeLevels: for all layers of counting units, inputs, counts and ticks, the function returns true, and its arguments read as they did.
-/
import Derived.Test.YtlgaegbommfdmaaGreatCodeLevels7
import Derived.Test.YtlgaegbommfdmaaGreatRows
set_option linter.all false
namespace HX
open Go Go.Proofs CX
set_option maxHeartbeats 4000000 in
set_option maxRecDepth 100000 in
theorem walk39 {ro A pre fn} (hE : EnvOk ⟨A, (cxE ro), ksF, sigL [(78, ⟨[(false, [.int .i64]), (false, [.sl [.sl [.sl [.int .i64], .int .i64, .int .i64]]]), (false, [.int .i64])], [(false, [.int .i64])], false⟩), (74, ⟨[(true, [.int .i64, .int .i64, .int .i64, .int .i64, .int .i64]), (false, [.sl [.int .i64]])], [(false, [.sl [.int .i64, .int .i64, .int .i64, .int .i64]])], false⟩), (75, ⟨[(true, [.int .i64, .int .i64, .int .i64, .int .i64, .int .i64]), (false, [.int .i64]), (false, [.int .i64])], [(true, [.int .i64, .int .i64, .int .i64, .int .i64])], false⟩), (85, ⟨[(false, [.int .i64])], [(true, [.int .i64, .int .i64, .int .i64, .int .i64, .int .i64, .int .i64, .int .i64, .int .i64])], false⟩)], pre, fn⟩) {P : List (List D) → Prop} {res : List (List D) → Nat → Nat → D}
    (hv : ∀ (a0 : Int) (a1 : Rows) (a2 : Int), ShR [.sl [.sl [.int .i64], .int .i64, .int .i64]] a1 → P [[.i a0], [.l a1], [.i a2]] → ∃ (I0 : Rows → Int → Prop) (m0 : Rows → Int → Nat) (I1 : Rows → Int → Int → Int → Int → Int → Rows → Int → Rows → Prop) (m1 : Rows → Int → Int → Int → Int → Int → Rows → Int → Rows → Nat) (I2 : Rows → Int → Int → Int → Int → Int → Rows → Int → Rows → Int → Int → Rows → Int → Rows → Prop) (m2 : Rows → Int → Int → Int → Int → Int → Rows → Int → Rows → Int → Int → Rows → Int → Rows → Nat), V39 pre fn a0 a1 a2 (res [[.i a0], [.l a1], [.i a2]]) I0 m0 I1 m1 I2 m2) :
    PureC (cxE ro) 39 ⟨[(false, [.int .i64]), (false, [.sl [.sl [.sl [.int .i64], .int .i64, .int .i64]]]), (false, [.int .i64])], [(true, [.sl [.int .i64, .int .i64, .int .i64, .int .i64, .int .i64, .int .i64, .int .i64, .int .i64], .int .i64, .sl [.int .i64, .int .i64, .int .i64, .int .i64]]), (false, [.int .i64])], false⟩ P res := by
  have hA := hE.A
  simp only [] at hA
  have hinl : ∀ f fn, inlL [(83, Tryz.f83), (84, Tryz.f84), (73, Tryz.f73), (107, Tryz.f107)] f = some fn → (cxE ro).fn f = some fn ∧ (cxE ro).ext f = none := Inls.ok (by repeat (first | exact .nil | refine .cons rfl rfl ?_))
  refine PureC.of_vc hE hinl 6 (f := 39) (fn := Tryz.f39) ⟨rfl, rfl⟩ ?_
  intro a0 a1 ha1 a2 hP
  obtain ⟨R, hR⟩ : ∃ R, res [[.i a0], [.l a1], [.i a2]] = R := ⟨_, rfl⟩
  rw [hR]
  obtain ⟨I0, m0, I1, m1, I2, m2, hV⟩ := hv a0 a1 a2 ha1 hP
  rw [hR] at hV
  clear hR hP hv
  cbv
  repeat' (first | (refine Br.mk (fun _ => ?_) (fun _ => ?_) <;> cbv) | (refine NilB.mk (fun _ => ?_) ?_ <;> cbv) | refine And.intro ?_ ?_ | exact True.intro)
  · subst hA; exact hV.g0
  · rename_i hp1_0
    subst hA; exact hV.g1 (df (nt hp1_0))
  · rename_i hp2_0
    subst hA; exact hV.g2 (df (nt hp2_0))
  · rename_i hp3_0
    subst hA; exact hV.g3 (df (nt hp3_0))
  · rename_i hp4_0
    subst hA; exact hV.g4 (df (nt hp4_0))
  · rename_i hp5_0
    subst hA; exact hV.g5 (dt (nf hp5_0))
  · rename_i hp6_0
    subst hA; exact hV.g6 (dt (nf hp6_0))
  · rename_i hp7_0
    subst hA; exact hV.g7 (dt (nf hp7_0))
  · rename_i hp8_0
    refine Leaf.gen fun σz hσz => ?_
    refine loopB hE hinl 6 [] [] [] (fun x : Rows × Int => [.l x.1, .i x.2]) (fun x => I0 x.1 x.2) (fun x => m0 x.1 x.2) ([], 0) (by subst hA; exact hV.i0 (dt (nf hp8_0))) ?_ ?_ <;> subst hσz
    · clear hE hinl hV; cbv; (try (repeat' (first | exact True.intro | rfl | assumption | apply And.intro)))
    · intro ⟨x0_0, x0_1⟩ hI0 K0 hK0
      cbv
      repeat' (first | (refine Br.mk (fun _ => ?_) (fun _ => ?_) <;> cbv) | (refine NilB.mk (fun _ => ?_) ?_ <;> cbv) | refine And.intro ?_ ?_ | exact True.intro)
      · rename_i hp9_0
        subst hA; exact hV.g9 _ _ hI0 (dt (nf hp8_0)) (dt hp9_0)
      · rename_i hp10_0
        subst hA; exact hV.g10 _ _ hI0 (dt (nf hp8_0)) (dt hp10_0)
      · rename_i hp11_0
        subst hA; exact hV.g11 _ _ hI0 (dt (nf hp8_0)) (dt hp11_0)
      · rename_i hp12_0
        subst hA; exact hV.g12 _ _ hI0 (dt (nf hp8_0)) (dt hp12_0)
      · rename_i hp13_0
        refine hK0 (A.app x0_0 [[D.i (A.nat (A.len (A.dl (A.get a1 (A.toNat x0_1) 0))))]], A.add x0_1 1) _ ?_ ?_ ?_
        · subst hA; exact (hV.n13 _ _ hI0 (dt (nf hp8_0)) (dt hp13_0)).1
        · subst hA; exact (hV.n13 _ _ hI0 (dt (nf hp8_0)) (dt hp13_0)).2
        · clear hE hinl hV hK0; cbv; (try (repeat' (first | exact True.intro | rfl | assumption | apply And.intro)))
      · rename_i hp14_0
        refine Leaf.gen fun σz hσz => ?_
        refine loopB hE hinl 6 [] [] [(5, [47, 0, 48])] (fun x : Int × Int × Int × Int × Rows × Int × Rows => [.i x.1, .i x.2.1, .i x.2.2.1, .i x.2.2.2.1, D.l [[.l x.2.2.2.2.1, .i x.2.2.2.2.2.1, .l x.2.2.2.2.2.2]]]) (fun x => I1 x0_0 x0_1 x.1 x.2.1 x.2.2.1 x.2.2.2.1 x.2.2.2.2.1 x.2.2.2.2.2.1 x.2.2.2.2.2.2) (fun x => m1 x0_0 x0_1 x.1 x.2.1 x.2.2.1 x.2.2.2.1 x.2.2.2.2.1 x.2.2.2.2.2.1 x.2.2.2.2.2.2) (0, -1, -1, 0, [], A.add (A.add a0 1) (A.mul 2 (A.nat (A.len a1))), []) (by subst hA; exact hV.i1 _ _ hI0 (dt (nf hp8_0)) (df hp14_0)) ?_ ?_ <;> subst hσz
        · clear hE hinl hV; cbv; (try (repeat' (first | exact True.intro | rfl | assumption | apply And.intro)))
        · intro ⟨x1_0, x1_1, x1_2, x1_3, x1_4, x1_5, x1_6⟩ hI1 K1 hK1
          cbv
          repeat' (first | (refine Br.mk (fun _ => ?_) (fun _ => ?_) <;> cbv) | (refine NilB.mk (fun _ => ?_) ?_ <;> cbv) | refine And.intro ?_ ?_ | exact True.intro)
          · rename_i hp15_0
            subst hA; exact hV.g15 _ _ hI0 _ _ _ _ _ _ _ hI1 (dt (nf hp8_0)) (df hp14_0) (dt hp15_0)
          · rename_i hp16_0
            subst hA; exact hV.g16 _ _ hI0 _ _ _ _ _ _ _ hI1 (dt (nf hp8_0)) (df hp14_0) (dt hp16_0)
          · rename_i hp17_0
            subst hA; exact hV.g17 _ _ hI0 _ _ _ _ _ _ _ hI1 (dt (nf hp8_0)) (df hp14_0) (dt hp17_0)
          · rename_i hp18_0
            refine Leaf.gen fun σz hσz => ?_
            refine loopB hE hinl 6 [] [] [(5, [47, 0, 48])] (fun x : Int × Int × Rows × Int × Rows => [.i x.1, .i x.2.1, D.l [[.l x.2.2.1, .i x.2.2.2.1, .l x.2.2.2.2]]]) (fun x => I2 x0_0 x0_1 x1_0 x1_1 x1_2 x1_3 x1_4 x1_5 x1_6 x.1 x.2.1 x.2.2.1 x.2.2.2.1 x.2.2.2.2) (fun x => m2 x0_0 x0_1 x1_0 x1_1 x1_2 x1_3 x1_4 x1_5 x1_6 x.1 x.2.1 x.2.2.1 x.2.2.2.1 x.2.2.2.2) (x1_0, 0, x1_4, x1_5, x1_6) (by subst hA; exact hV.i2 _ _ hI0 _ _ _ _ _ _ _ hI1 (dt (nf hp8_0)) (df hp14_0) (dt hp18_0)) ?_ ?_ <;> subst hσz
            · clear hE hinl hV; cbv; (try (repeat' (first | exact True.intro | rfl | assumption | apply And.intro)))
            · intro ⟨x2_0, x2_1, x2_2, x2_3, x2_4⟩ hI2 K2 hK2
              cbv
              repeat' (first | (refine Br.mk (fun _ => ?_) (fun _ => ?_) <;> cbv) | (refine NilB.mk (fun _ => ?_) ?_ <;> cbv) | refine And.intro ?_ ?_ | exact True.intro)
              · rename_i hp19_0
                subst hA; exact hV.g19 _ _ hI0 _ _ _ _ _ _ _ hI1 _ _ _ _ _ hI2 (dt (nf hp8_0)) (df hp14_0) (dt hp18_0) (dt hp19_0)
              · rename_i hp20_0
                subst hA; exact hV.g20 _ _ hI0 _ _ _ _ _ _ _ hI1 _ _ _ _ _ hI2 (dt (nf hp8_0)) (df hp14_0) (dt hp18_0) (dt hp20_0)
              · rename_i hp21_0
                subst hA; exact hV.g21 _ _ hI0 _ _ _ _ _ _ _ hI1 _ _ _ _ _ hI2 (dt (nf hp8_0)) (df hp14_0) (dt hp18_0) (dt hp21_0)
              · rename_i hp22_0
                subst hA; exact hV.g22 _ _ hI0 _ _ _ _ _ _ _ hI1 _ _ _ _ _ hI2 (dt (nf hp8_0)) (df hp14_0) (dt hp18_0) (dt hp22_0)
              · rename_i hp23_0
                subst hA; exact hV.g23 _ _ hI0 _ _ _ _ _ _ _ hI1 _ _ _ _ _ hI2 (dt (nf hp8_0)) (df hp14_0) (dt hp18_0) (dt hp23_0)
              · rename_i hp24_0
                subst hA; exact hV.g24 _ _ hI0 _ _ _ _ _ _ _ hI1 _ _ _ _ _ hI2 (dt (nf hp8_0)) (df hp14_0) (dt hp18_0) (dt hp24_0)
              · rename_i hp25_0
                subst hA; exact hV.g25 _ _ hI0 _ _ _ _ _ _ _ hI1 _ _ _ _ _ hI2 (dt (nf hp8_0)) (df hp14_0) (dt hp18_0) (dt hp25_0)
              · rename_i hp26_0
                subst hA; exact hV.g26 _ _ hI0 _ _ _ _ _ _ _ hI1 _ _ _ _ _ hI2 (dt (nf hp8_0)) (df hp14_0) (dt hp18_0) (dt hp26_0)
              · rename_i hp27_0
                subst hA; exact hV.g27 _ _ hI0 _ _ _ _ _ _ _ hI1 _ _ _ _ _ hI2 (dt (nf hp8_0)) (df hp14_0) (dt hp18_0) (dt hp27_0)
              · rename_i hp28_0
                subst hA; exact hV.g28 _ _ hI0 _ _ _ _ _ _ _ hI1 _ _ _ _ _ hI2 (dt (nf hp8_0)) (df hp14_0) (dt hp18_0) (dt hp28_0)
              · rename_i hp29_0
                subst hA; exact hV.g29 _ _ hI0 _ _ _ _ _ _ _ hI1 _ _ _ _ _ hI2 (dt (nf hp8_0)) (df hp14_0) (dt hp18_0) (dt hp29_0)
              · rename_i hp30_0
                subst hA; exact hV.g30 _ _ hI0 _ _ _ _ _ _ _ hI1 _ _ _ _ _ hI2 (dt (nf hp8_0)) (df hp14_0) (dt hp18_0) (dt hp30_0)
              · rename_i hp31_0
                subst hA; exact hV.g31 _ _ hI0 _ _ _ _ _ _ _ hI1 _ _ _ _ _ hI2 (dt (nf hp8_0)) (df hp14_0) (dt hp18_0) (dt hp31_0)
              · rename_i hp32_0
                subst hA; exact hV.g32 _ _ hI0 _ _ _ _ _ _ _ hI1 _ _ _ _ _ hI2 (dt (nf hp8_0)) (df hp14_0) (dt hp18_0) (dt hp32_0)
              · rename_i hp33_0
                subst hA; exact hV.g33 _ _ hI0 _ _ _ _ _ _ _ hI1 _ _ _ _ _ hI2 (dt (nf hp8_0)) (df hp14_0) (dt hp18_0) (dt hp33_0)
              · rename_i hp34_0
                subst hA; exact hV.g34 _ _ hI0 _ _ _ _ _ _ _ hI1 _ _ _ _ _ hI2 (dt (nf hp8_0)) (df hp14_0) (dt hp18_0) (dt hp34_0)
              · rename_i hp35_0
                subst hA; exact hV.g35 _ _ hI0 _ _ _ _ _ _ _ hI1 _ _ _ _ _ hI2 (dt (nf hp8_0)) (df hp14_0) (dt hp18_0) (dt hp35_0)
              · rename_i hp36_0
                subst hA; exact hV.g36 _ _ hI0 _ _ _ _ _ _ _ hI1 _ _ _ _ _ hI2 (dt (nf hp8_0)) (df hp14_0) (dt hp18_0) (dt hp36_0)
              · rename_i hp37_0
                subst hA; exact hV.g37 _ _ hI0 _ _ _ _ _ _ _ hI1 _ _ _ _ _ hI2 (dt (nf hp8_0)) (df hp14_0) (dt hp18_0) (dt hp37_0)
              · rename_i hp38_0
                subst hA; exact hV.g38 _ _ hI0 _ _ _ _ _ _ _ hI1 _ _ _ _ _ hI2 (dt (nf hp8_0)) (df hp14_0) (dt hp18_0) (dt hp38_0)
              · rename_i hp39_0
                refine hK2 (A.add x2_0 1, A.add x2_1 1, A.app x2_2 [[D.i (A.di (fn 85 [[D.i (A.di (A.get (A.dl (A.get a1 (A.toNat x1_3) 0)) (A.toNat x2_1) 2))]] 0 0)), D.i (A.di (fn 85 [[D.i (A.di (A.get (A.dl (A.get a1 (A.toNat x1_3) 0)) (A.toNat x2_1) 2))]] 0 1)), D.i (A.di (fn 85 [[D.i (A.di (A.get (A.dl (A.get a1 (A.toNat x1_3) 0)) (A.toNat x2_1) 2))]] 0 2)), D.i (A.di (fn 85 [[D.i (A.di (A.get (A.dl (A.get a1 (A.toNat x1_3) 0)) (A.toNat x2_1) 2))]] 0 3)), D.i (A.di (fn 85 [[D.i (A.di (A.get (A.dl (A.get a1 (A.toNat x1_3) 0)) (A.toNat x2_1) 2))]] 0 4)), D.i (A.di (fn 85 [[D.i (A.di (A.get (A.dl (A.get a1 (A.toNat x1_3) 0)) (A.toNat x2_1) 2))]] 0 5)), D.i (A.di (fn 85 [[D.i (A.di (A.get (A.dl (A.get a1 (A.toNat x1_3) 0)) (A.toNat x2_1) 2))]] 0 6)), D.i (A.di (fn 85 [[D.i (A.di (A.get (A.dl (A.get a1 (A.toNat x1_3) 0)) (A.toNat x2_1) 2))]] 0 7))]], x2_3, A.app (A.app x2_4 (A.dl (fn 74 [[D.i x1_3, D.i x2_1, D.i x2_0, D.i x1_1, D.i x1_2], [D.l (A.dl (A.get (A.dl (A.get a1 (A.toNat x1_3) 0)) (A.toNat x2_1) 0))]] 0 0))) [[D.i (A.di (fn 75 [[D.i x1_3, D.i x2_1, D.i x2_0, D.i x1_1, D.i x1_2], [D.i (A.sub (-1) a0)], [D.i (-32768)]] 0 0)), D.i (A.di (fn 75 [[D.i x1_3, D.i x2_1, D.i x2_0, D.i x1_1, D.i x1_2], [D.i (A.sub (-1) a0)], [D.i (-32768)]] 0 1)), D.i (A.di (fn 75 [[D.i x1_3, D.i x2_1, D.i x2_0, D.i x1_1, D.i x1_2], [D.i (A.sub (-1) a0)], [D.i (-32768)]] 0 2)), D.i (A.di (fn 75 [[D.i x1_3, D.i x2_1, D.i x2_0, D.i x1_1, D.i x1_2], [D.i (A.sub (-1) a0)], [D.i (-32768)]] 0 3))], [D.i (A.di (fn 75 [[D.i x1_3, D.i x2_1, D.i x2_0, D.i x1_1, D.i x1_2], [D.i (A.sub (A.sub (-2) a0) (A.mul 2 x1_3))], [D.i 32768]] 0 0)), D.i (A.di (fn 75 [[D.i x1_3, D.i x2_1, D.i x2_0, D.i x1_1, D.i x1_2], [D.i (A.sub (A.sub (-2) a0) (A.mul 2 x1_3))], [D.i 32768]] 0 1)), D.i (A.di (fn 75 [[D.i x1_3, D.i x2_1, D.i x2_0, D.i x1_1, D.i x1_2], [D.i (A.sub (A.sub (-2) a0) (A.mul 2 x1_3))], [D.i 32768]] 0 2)), D.i (A.di (fn 75 [[D.i x1_3, D.i x2_1, D.i x2_0, D.i x1_1, D.i x1_2], [D.i (A.sub (A.sub (-2) a0) (A.mul 2 x1_3))], [D.i 32768]] 0 3))], [D.i (A.di (fn 75 [[D.i x1_3, D.i x2_1, D.i x2_0, D.i x1_1, D.i x1_2], [D.i (A.sub (A.sub (-2) a0) (A.mul 2 x1_3))], [D.i (A.di (A.get (A.dl (A.get a1 (A.toNat x1_3) 0)) (A.toNat x2_1) 1))]] 0 0)), D.i (A.di (fn 75 [[D.i x1_3, D.i x2_1, D.i x2_0, D.i x1_1, D.i x1_2], [D.i (A.sub (A.sub (-2) a0) (A.mul 2 x1_3))], [D.i (A.di (A.get (A.dl (A.get a1 (A.toNat x1_3) 0)) (A.toNat x2_1) 1))]] 0 1)), D.i (A.di (fn 75 [[D.i x1_3, D.i x2_1, D.i x2_0, D.i x1_1, D.i x1_2], [D.i (A.sub (A.sub (-2) a0) (A.mul 2 x1_3))], [D.i (A.di (A.get (A.dl (A.get a1 (A.toNat x1_3) 0)) (A.toNat x2_1) 1))]] 0 2)), D.i (A.di (fn 75 [[D.i x1_3, D.i x2_1, D.i x2_0, D.i x1_1, D.i x1_2], [D.i (A.sub (A.sub (-2) a0) (A.mul 2 x1_3))], [D.i (A.di (A.get (A.dl (A.get a1 (A.toNat x1_3) 0)) (A.toNat x2_1) 1))]] 0 3))], [D.i (A.di (fn 75 [[D.i x1_3, D.i x2_1, D.i x2_0, D.i x1_1, D.i x1_2], [D.i (A.sub (A.sub (A.sub (-2) a0) (A.mul 2 x1_3)) 1)], [D.i (-32768)]] 0 0)), D.i (A.di (fn 75 [[D.i x1_3, D.i x2_1, D.i x2_0, D.i x1_1, D.i x1_2], [D.i (A.sub (A.sub (A.sub (-2) a0) (A.mul 2 x1_3)) 1)], [D.i (-32768)]] 0 1)), D.i (A.di (fn 75 [[D.i x1_3, D.i x2_1, D.i x2_0, D.i x1_1, D.i x1_2], [D.i (A.sub (A.sub (A.sub (-2) a0) (A.mul 2 x1_3)) 1)], [D.i (-32768)]] 0 2)), D.i (A.di (fn 75 [[D.i x1_3, D.i x2_1, D.i x2_0, D.i x1_1, D.i x1_2], [D.i (A.sub (A.sub (A.sub (-2) a0) (A.mul 2 x1_3)) 1)], [D.i (-32768)]] 0 3))]]) _ ?_ ?_ ?_
                · subst hA; exact (hV.n39 _ _ hI0 _ _ _ _ _ _ _ hI1 _ _ _ _ _ hI2 (dt (nf hp8_0)) (df hp14_0) (dt hp18_0) (dt hp39_0)).1
                · subst hA; exact (hV.n39 _ _ hI0 _ _ _ _ _ _ _ hI1 _ _ _ _ _ hI2 (dt (nf hp8_0)) (df hp14_0) (dt hp18_0) (dt hp39_0)).2
                · clear hE hinl hV hK2; cbv; (try (repeat' (first | exact True.intro | rfl | assumption | apply And.intro)))
              · rename_i hp40_0
                subst hA; exact hV.g40 _ _ hI0 _ _ _ _ _ _ _ hI1 _ _ _ _ _ hI2 (dt (nf hp8_0)) (df hp14_0) (dt hp18_0) (df hp40_0)
              · rename_i hp41_0
                refine hK1 (x2_0, x1_0, 1, A.add x1_3 1, x2_2, x2_3, x2_4) _ ?_ ?_ ?_
                · subst hA; exact (hV.n41 _ _ hI0 _ _ _ _ _ _ _ hI1 _ _ _ _ _ hI2 (dt (nf hp8_0)) (df hp14_0) (dt hp18_0) (df hp41_0)).1
                · subst hA; exact (hV.n41 _ _ hI0 _ _ _ _ _ _ _ hI1 _ _ _ _ _ hI2 (dt (nf hp8_0)) (df hp14_0) (dt hp18_0) (df hp41_0)).2
                · clear hE hinl hV hK1; cbv; (try (repeat' (first | exact True.intro | rfl | assumption | apply And.intro)))
          · rename_i hp42_0
            subst hA; exact hV.g42 _ _ hI0 _ _ _ _ _ _ _ hI1 (dt (nf hp8_0)) (df hp14_0) (df hp42_0)
          · rename_i hp43_0
            subst hA; exact hV.g43 _ _ hI0 _ _ _ _ _ _ _ hI1 (dt (nf hp8_0)) (df hp14_0) (df hp43_0)
          · rename_i hp44_0
            subst hA; exact hV.g44 _ _ hI0 _ _ _ _ _ _ _ hI1 (dt (nf hp8_0)) (df hp14_0) (df hp44_0)
          · rename_i hp45_0
            subst hA; exact hV.g45 _ _ hI0 _ _ _ _ _ _ _ hI1 (dt (nf hp8_0)) (df hp14_0) (df hp45_0)
end HX

namespace HX
open Go Go.Proofs CX
set_option maxHeartbeats 4000000 in
set_option maxRecDepth 100000 in
theorem walk40 {ro A pre fn} (hE : EnvOk ⟨A, (cxE ro), ksF, sigL [(82, ⟨[(false, [.int .i64]), (false, [.sl [.sl [.sl [.int .i64], .int .i64, .int .i64]]]), (false, [.int .i64])], [(false, [.int .i64])], false⟩)], pre, fn⟩) {P : List (List D) → Prop} {res : List (List D) → Nat → Nat → D}
    (hv : ∀ (a0 : Int) (a1 : Rows) (a2 : Int), ShR [.sl [.sl [.int .i64], .int .i64, .int .i64]] a1 → P [[.i a0], [.l a1], [.i a2]] → ∃ (I0 : Int → Int → Int → Rows → Int → Rows → Prop) (m0 : Int → Int → Int → Rows → Int → Rows → Nat) (I1 : Int → Int → Int → Rows → Int → Rows → Int → Rows → Int → Rows → Prop) (m1 : Int → Int → Int → Rows → Int → Rows → Int → Rows → Int → Rows → Nat) (I2 : Int → Int → Int → Rows → Int → Rows → Int → Rows → Int → Rows → Int → Rows → Int → Rows → Prop) (m2 : Int → Int → Int → Rows → Int → Rows → Int → Rows → Int → Rows → Int → Rows → Int → Rows → Nat), V40 pre fn a0 a1 a2 (res [[.i a0], [.l a1], [.i a2]]) I0 m0 I1 m1 I2 m2) :
    PureC (cxE ro) 40 ⟨[(false, [.int .i64]), (false, [.sl [.sl [.sl [.int .i64], .int .i64, .int .i64]]]), (false, [.int .i64])], [(true, [.sl [.int .i64, .int .i64, .int .i64, .int .i64, .int .i64, .int .i64, .int .i64, .int .i64], .int .i64, .sl [.int .i64, .int .i64, .int .i64, .int .i64]]), (false, [.int .i64])], false⟩ P res := by
  have hA := hE.A
  simp only [] at hA
  have hinl : ∀ f fn, inlL [(76, Tryz.f76), (52, Tryz.f52)] f = some fn → (cxE ro).fn f = some fn ∧ (cxE ro).ext f = none := Inls.ok (by repeat (first | exact .nil | refine .cons rfl rfl ?_))
  refine PureC.of_vc hE hinl 6 (f := 40) (fn := Tryz.f40) ⟨rfl, rfl⟩ ?_
  intro a0 a1 ha1 a2 hP
  obtain ⟨R, hR⟩ : ∃ R, res [[.i a0], [.l a1], [.i a2]] = R := ⟨_, rfl⟩
  rw [hR]
  obtain ⟨I0, m0, I1, m1, I2, m2, hV⟩ := hv a0 a1 a2 ha1 hP
  rw [hR] at hV
  clear hR hP hv
  cbv
  repeat' (first | (refine Br.mk (fun _ => ?_) (fun _ => ?_) <;> cbv) | (refine NilB.mk (fun _ => ?_) ?_ <;> cbv) | refine And.intro ?_ ?_ | exact True.intro)
  · subst hA; exact hV.g0
  · rename_i hp1_0
    subst hA; exact hV.g1 (df (nt hp1_0))
  · rename_i hp2_0
    subst hA; exact hV.g2 (df (nt hp2_0))
  · rename_i hp3_0
    subst hA; exact hV.g3 (df (nt hp3_0))
  · rename_i hp4_0
    subst hA; exact hV.g4 (df (nt hp4_0))
  · rename_i hp5_0
    subst hA; exact hV.g5 (dt (nf hp5_0))
  · rename_i hp6_0
    subst hA; exact hV.g6 (dt (nf hp6_0))
  · rename_i hp7_0
    subst hA; exact hV.g7 (dt (nf hp7_0))
  · rename_i hp8_0
    refine Leaf.gen fun σz hσz => ?_
    refine loopB hE hinl 6 [] [] [(3, [47, 0, 48])] (fun x : Int × Int × Int × Rows × Int × Rows => [.i x.1, .i x.2.1, .i x.2.2.1, D.l [[.l x.2.2.2.1, .i x.2.2.2.2.1, .l x.2.2.2.2.2]]]) (fun x => I0 x.1 x.2.1 x.2.2.1 x.2.2.2.1 x.2.2.2.2.1 x.2.2.2.2.2) (fun x => m0 x.1 x.2.1 x.2.2.1 x.2.2.2.1 x.2.2.2.2.1 x.2.2.2.2.2) (0, 0, 0, [], A.add (A.add a0 1) (A.mul 2 (A.nat (A.len a1))), []) (by subst hA; exact hV.i0 (dt (nf hp8_0))) ?_ ?_ <;> subst hσz
    · clear hE hinl hV; cbv; (try (repeat' (first | exact True.intro | rfl | assumption | apply And.intro)))
    · intro ⟨x0_0, x0_1, x0_2, x0_3, x0_4, x0_5⟩ hI0 K0 hK0
      cbv
      repeat' (first | (refine Br.mk (fun _ => ?_) (fun _ => ?_) <;> cbv) | (refine NilB.mk (fun _ => ?_) ?_ <;> cbv) | refine And.intro ?_ ?_ | exact True.intro)
      · rename_i hp9_0
        refine Leaf.gen fun σz hσz => ?_
        refine loopB hE hinl 6 [] [] [(3, [47, 0, 48])] (fun x : Int × Rows × Int × Rows => [.i x.1, D.l [[.l x.2.1, .i x.2.2.1, .l x.2.2.2]]]) (fun x => I1 x0_0 x0_1 x0_2 x0_3 x0_4 x0_5 x.1 x.2.1 x.2.2.1 x.2.2.2) (fun x => m1 x0_0 x0_1 x0_2 x0_3 x0_4 x0_5 x.1 x.2.1 x.2.2.1 x.2.2.2) (0, x0_3, x0_4, x0_5) (by subst hA; exact hV.i1 _ _ _ _ _ _ hI0 (dt (nf hp8_0)) (dt hp9_0)) ?_ ?_ <;> subst hσz
        · clear hE hinl hV; cbv; (try (repeat' (first | exact True.intro | rfl | assumption | apply And.intro)))
        · intro ⟨x1_0, x1_1, x1_2, x1_3⟩ hI1 K1 hK1
          cbv
          repeat' (first | (refine Br.mk (fun _ => ?_) (fun _ => ?_) <;> cbv) | (refine NilB.mk (fun _ => ?_) ?_ <;> cbv) | refine And.intro ?_ ?_ | exact True.intro)
          · subst hA; exact hV.g10 _ _ _ _ _ _ hI0 _ _ _ _ hI1 (dt (nf hp8_0)) (dt hp9_0)
          · subst hA; exact hV.g11 _ _ _ _ _ _ hI0 _ _ _ _ hI1 (dt (nf hp8_0)) (dt hp9_0)
          · rename_i hp12_0
            subst hA; exact hV.g12 _ _ _ _ _ _ hI0 _ _ _ _ hI1 (dt (nf hp8_0)) (dt hp9_0) (dt hp12_0)
          · rename_i hp13_0
            subst hA; exact hV.g13 _ _ _ _ _ _ hI0 _ _ _ _ hI1 (dt (nf hp8_0)) (dt hp9_0) (dt hp13_0)
          · rename_i hp14_0
            subst hA; exact hV.g14 _ _ _ _ _ _ hI0 _ _ _ _ hI1 (dt (nf hp8_0)) (dt hp9_0) (dt hp14_0)
          · rename_i hp15_0
            subst hA; exact hV.g15 _ _ _ _ _ _ hI0 _ _ _ _ hI1 (dt (nf hp8_0)) (dt hp9_0) (dt hp15_0)
          · rename_i hp16_0
            subst hA; exact hV.g16 _ _ _ _ _ _ hI0 _ _ _ _ hI1 (dt (nf hp8_0)) (dt hp9_0) (dt hp16_0)
          · rename_i hp17_0
            refine Leaf.gen fun σz hσz => ?_
            refine loopB hE hinl 6 [] [] [(3, [47, 0, 48])] (fun x : Int × Rows × Int × Rows => [.i x.1, D.l [[.l x.2.1, .i x.2.2.1, .l x.2.2.2]]]) (fun x => I2 x0_0 x0_1 x0_2 x0_3 x0_4 x0_5 x1_0 x1_1 x1_2 x1_3 x.1 x.2.1 x.2.2.1 x.2.2.2) (fun x => m2 x0_0 x0_1 x0_2 x0_3 x0_4 x0_5 x1_0 x1_1 x1_2 x1_3 x.1 x.2.1 x.2.2.1 x.2.2.2) (0, A.app x1_1 [[D.i 0, D.i 0, D.i 0, D.i (A.di (A.get (A.dl (A.get a1 (A.toNat x0_2) 0)) (A.toNat x1_0) 2)), D.i 1, D.i 0, D.i (-1048576), D.i 0]], x1_2, x1_3) (by subst hA; exact hV.i2 _ _ _ _ _ _ hI0 _ _ _ _ hI1 (dt (nf hp8_0)) (dt hp9_0) (dt hp17_0)) ?_ ?_ <;> subst hσz
            · clear hE hinl hV; cbv; (try (repeat' (first | exact True.intro | rfl | assumption | apply And.intro)))
            · intro ⟨x2_0, x2_1, x2_2, x2_3⟩ hI2 K2 hK2
              cbv
              repeat' (first | (refine Br.mk (fun _ => ?_) (fun _ => ?_) <;> cbv) | (refine NilB.mk (fun _ => ?_) ?_ <;> cbv) | refine And.intro ?_ ?_ | exact True.intro)
              · rename_i hp18_0
                subst hA; exact hV.g18 _ _ _ _ _ _ hI0 _ _ _ _ hI1 _ _ _ _ hI2 (dt (nf hp8_0)) (dt hp9_0) (dt hp17_0) (dt hp18_0)
              · rename_i hp19_0 hp19_1
                subst hA; exact hV.g19 _ _ _ _ _ _ hI0 _ _ _ _ hI1 _ _ _ _ hI2 (dt (nf hp8_0)) (dt hp9_0) (dt hp17_0) (dt hp19_0) (dt hp19_1)
              · rename_i hp20_0 hp20_1
                subst hA; exact hV.g20 _ _ _ _ _ _ hI0 _ _ _ _ hI1 _ _ _ _ hI2 (dt (nf hp8_0)) (dt hp9_0) (dt hp17_0) (dt hp20_0) (dt hp20_1)
              · rename_i hp21_0 hp21_1
                subst hA; exact hV.g21 _ _ _ _ _ _ hI0 _ _ _ _ hI1 _ _ _ _ hI2 (dt (nf hp8_0)) (dt hp9_0) (dt hp17_0) (dt hp21_0) (dt hp21_1)
              · rename_i hp22_0 hp22_1
                subst hA; exact hV.g22 _ _ _ _ _ _ hI0 _ _ _ _ hI1 _ _ _ _ hI2 (dt (nf hp8_0)) (dt hp9_0) (dt hp17_0) (dt hp22_0) (dt hp22_1)
              · rename_i hp23_0 hp23_1
                subst hA; exact hV.g23 _ _ _ _ _ _ hI0 _ _ _ _ hI1 _ _ _ _ hI2 (dt (nf hp8_0)) (dt hp9_0) (dt hp17_0) (dt hp23_0) (dt hp23_1)
              · rename_i hp24_0 hp24_1
                subst hA; exact hV.g24 _ _ _ _ _ _ hI0 _ _ _ _ hI1 _ _ _ _ hI2 (dt (nf hp8_0)) (dt hp9_0) (dt hp17_0) (dt hp24_0) (dt hp24_1)
              · rename_i hp25_0 hp25_1
                refine hK2 (A.add x2_0 1, x2_1, x2_2, A.app x2_3 [[D.i (A.sub (-1) x2_0), D.i (A.add x0_1 x1_0), D.i (A.di (A.get (A.dl (A.get (A.dl (A.get a1 (A.toNat x0_2) 0)) (A.toNat x1_0) 0)) (A.toNat x2_0) 0)), D.i 1]]) _ ?_ ?_ ?_
                · subst hA; exact (hV.n25 _ _ _ _ _ _ hI0 _ _ _ _ hI1 _ _ _ _ hI2 (dt (nf hp8_0)) (dt hp9_0) (dt hp17_0) (dt hp25_0) (dt hp25_1)).1
                · subst hA; exact (hV.n25 _ _ _ _ _ _ hI0 _ _ _ _ hI1 _ _ _ _ hI2 (dt (nf hp8_0)) (dt hp9_0) (dt hp17_0) (dt hp25_0) (dt hp25_1)).2
                · clear hE hinl hV hK2; cbv; (try (repeat' (first | exact True.intro | rfl | assumption | apply And.intro)))
              · rename_i hp26_0 hp26_1
                subst hA; exact hV.g26 _ _ _ _ _ _ hI0 _ _ _ _ hI1 _ _ _ _ hI2 (dt (nf hp8_0)) (dt hp9_0) (dt hp17_0) (dt hp26_0) (df hp26_1)
              · rename_i hp27_0 hp27_1
                subst hA; exact hV.g27 _ _ _ _ _ _ hI0 _ _ _ _ hI1 _ _ _ _ hI2 (dt (nf hp8_0)) (dt hp9_0) (dt hp17_0) (dt hp27_0) (df hp27_1)
              · rename_i hp28_0 hp28_1
                subst hA; exact hV.g28 _ _ _ _ _ _ hI0 _ _ _ _ hI1 _ _ _ _ hI2 (dt (nf hp8_0)) (dt hp9_0) (dt hp17_0) (dt hp28_0) (df hp28_1)
              · rename_i hp29_0 hp29_1
                subst hA; exact hV.g29 _ _ _ _ _ _ hI0 _ _ _ _ hI1 _ _ _ _ hI2 (dt (nf hp8_0)) (dt hp9_0) (dt hp17_0) (dt hp29_0) (df hp29_1)
              · rename_i hp30_0 hp30_1
                subst hA; exact hV.g30 _ _ _ _ _ _ hI0 _ _ _ _ hI1 _ _ _ _ hI2 (dt (nf hp8_0)) (dt hp9_0) (dt hp17_0) (dt hp30_0) (df hp30_1)
              · rename_i hp31_0 hp31_1
                refine hK2 (A.add x2_0 1, x2_1, x2_2, A.app x2_3 [[D.i (A.add x0_0 x2_0), D.i (A.add x0_1 x1_0), D.i (A.di (A.get (A.dl (A.get (A.dl (A.get a1 (A.toNat x0_2) 0)) (A.toNat x1_0) 0)) (A.toNat x2_0) 0)), D.i 1]]) _ ?_ ?_ ?_
                · subst hA; exact (hV.n31 _ _ _ _ _ _ hI0 _ _ _ _ hI1 _ _ _ _ hI2 (dt (nf hp8_0)) (dt hp9_0) (dt hp17_0) (dt hp31_0) (df hp31_1)).1
                · subst hA; exact (hV.n31 _ _ _ _ _ _ hI0 _ _ _ _ hI1 _ _ _ _ hI2 (dt (nf hp8_0)) (dt hp9_0) (dt hp17_0) (dt hp31_0) (df hp31_1)).2
                · clear hE hinl hV hK2; cbv; (try (repeat' (first | exact True.intro | rfl | assumption | apply And.intro)))
              · rename_i hp32_0
                subst hA; exact hV.g32 _ _ _ _ _ _ hI0 _ _ _ _ hI1 _ _ _ _ hI2 (dt (nf hp8_0)) (dt hp9_0) (dt hp17_0) (df hp32_0)
              · rename_i hp33_0
                subst hA; exact hV.g33 _ _ _ _ _ _ hI0 _ _ _ _ hI1 _ _ _ _ hI2 (dt (nf hp8_0)) (dt hp9_0) (dt hp17_0) (df hp33_0)
              · rename_i hp34_0
                subst hA; exact hV.g34 _ _ _ _ _ _ hI0 _ _ _ _ hI1 _ _ _ _ hI2 (dt (nf hp8_0)) (dt hp9_0) (dt hp17_0) (df hp34_0)
              · rename_i hp35_0
                subst hA; exact hV.g35 _ _ _ _ _ _ hI0 _ _ _ _ hI1 _ _ _ _ hI2 (dt (nf hp8_0)) (dt hp9_0) (dt hp17_0) (df hp35_0)
              · rename_i hp36_0
                subst hA; exact hV.g36 _ _ _ _ _ _ hI0 _ _ _ _ hI1 _ _ _ _ hI2 (dt (nf hp8_0)) (dt hp9_0) (dt hp17_0) (df hp36_0)
              · rename_i hp37_0
                subst hA; exact hV.g37 _ _ _ _ _ _ hI0 _ _ _ _ hI1 _ _ _ _ hI2 (dt (nf hp8_0)) (dt hp9_0) (dt hp17_0) (df hp37_0)
              · rename_i hp38_0
                subst hA; exact hV.g38 _ _ _ _ _ _ hI0 _ _ _ _ hI1 _ _ _ _ hI2 (dt (nf hp8_0)) (dt hp9_0) (dt hp17_0) (df hp38_0)
              · rename_i hp39_0
                subst hA; exact hV.g37 _ _ _ _ _ _ hI0 _ _ _ _ hI1 _ _ _ _ hI2 (dt (nf hp8_0)) (dt hp9_0) (dt hp17_0) (df hp39_0)
              · rename_i hp40_0
                subst hA; exact hV.g40 _ _ _ _ _ _ hI0 _ _ _ _ hI1 _ _ _ _ hI2 (dt (nf hp8_0)) (dt hp9_0) (dt hp17_0) (df hp40_0)
              · rename_i hp41_0
                subst hA; exact hV.g37 _ _ _ _ _ _ hI0 _ _ _ _ hI1 _ _ _ _ hI2 (dt (nf hp8_0)) (dt hp9_0) (dt hp17_0) (df hp41_0)
              · rename_i hp42_0
                subst hA; exact hV.g42 _ _ _ _ _ _ hI0 _ _ _ _ hI1 _ _ _ _ hI2 (dt (nf hp8_0)) (dt hp9_0) (dt hp17_0) (df hp42_0)
              · rename_i hp43_0
                subst hA; exact hV.g43 _ _ _ _ _ _ hI0 _ _ _ _ hI1 _ _ _ _ hI2 (dt (nf hp8_0)) (dt hp9_0) (dt hp17_0) (df hp43_0)
              · rename_i hp44_0
                subst hA; exact hV.g37 _ _ _ _ _ _ hI0 _ _ _ _ hI1 _ _ _ _ hI2 (dt (nf hp8_0)) (dt hp9_0) (dt hp17_0) (df hp44_0)
              · rename_i hp45_0
                subst hA; exact hV.g45 _ _ _ _ _ _ hI0 _ _ _ _ hI1 _ _ _ _ hI2 (dt (nf hp8_0)) (dt hp9_0) (dt hp17_0) (df hp45_0)
              · rename_i hp46_0
                subst hA; exact hV.g46 _ _ _ _ _ _ hI0 _ _ _ _ hI1 _ _ _ _ hI2 (dt (nf hp8_0)) (dt hp9_0) (dt hp17_0) (df hp46_0)
              · rename_i hp47_0
                refine hK1 (A.add x1_0 1, x2_1, x2_2, A.app (A.app (A.app (A.app x2_3 [[D.i (A.sub (-1) a0), D.i (A.add x0_1 x1_0), D.i (-32768), D.i 1]]) [[D.i (A.sub (-1) (A.add (A.add a0 1) (A.mul 2 x0_2))), D.i (A.add x0_1 x1_0), D.i 32768, D.i 1]]) [[D.i (A.sub (-1) (A.add (A.add a0 1) (A.mul 2 x0_2))), D.i (A.add x0_1 x1_0), D.i (A.di (A.get (A.dl (A.get a1 (A.toNat x0_2) 0)) (A.toNat x1_0) 1)), D.i 1]]) [[D.i (A.sub (A.sub (-1) (A.add (A.add a0 1) (A.mul 2 x0_2))) 1), D.i (A.add x0_1 x1_0), D.i (-32768), D.i 1]]) _ ?_ ?_ ?_
                · subst hA; exact (hV.n47 _ _ _ _ _ _ hI0 _ _ _ _ hI1 _ _ _ _ hI2 (dt (nf hp8_0)) (dt hp9_0) (dt hp17_0) (df hp47_0)).1
                · subst hA; exact (hV.n47 _ _ _ _ _ _ hI0 _ _ _ _ hI1 _ _ _ _ hI2 (dt (nf hp8_0)) (dt hp9_0) (dt hp17_0) (df hp47_0)).2
                · clear hE hinl hV hK1; cbv; (try (repeat' (first | exact True.intro | rfl | assumption | apply And.intro)))
          · rename_i hp48_0
            subst hA; exact hV.g48 _ _ _ _ _ _ hI0 _ _ _ _ hI1 (dt (nf hp8_0)) (dt hp9_0) (df hp48_0)
          · rename_i hp49_0
            subst hA; exact hV.g49 _ _ _ _ _ _ hI0 _ _ _ _ hI1 (dt (nf hp8_0)) (dt hp9_0) (df hp49_0)
          · rename_i hp50_0
            subst hA; exact hV.g50 _ _ _ _ _ _ hI0 _ _ _ _ hI1 (dt (nf hp8_0)) (dt hp9_0) (df hp50_0)
          · rename_i hp51_0
            subst hA; exact hV.g51 _ _ _ _ _ _ hI0 _ _ _ _ hI1 (dt (nf hp8_0)) (dt hp9_0) (df hp51_0)
          · rename_i hp52_0
            refine hK0 (x0_1, A.add x0_1 (A.nat (A.len (A.dl (A.get a1 (A.toNat x0_2) 0)))), A.add x0_2 1, x1_1, x1_2, x1_3) _ ?_ ?_ ?_
            · subst hA; exact (hV.n52 _ _ _ _ _ _ hI0 _ _ _ _ hI1 (dt (nf hp8_0)) (dt hp9_0) (df hp52_0)).1
            · subst hA; exact (hV.n52 _ _ _ _ _ _ hI0 _ _ _ _ hI1 (dt (nf hp8_0)) (dt hp9_0) (df hp52_0)).2
            · clear hE hinl hV hK0; cbv; (try (repeat' (first | exact True.intro | rfl | assumption | apply And.intro)))
      · rename_i hp53_0
        subst hA; exact hV.g53 _ _ _ _ _ _ hI0 (dt (nf hp8_0)) (df hp53_0)
      · rename_i hp54_0
        subst hA; exact hV.g54 _ _ _ _ _ _ hI0 (dt (nf hp8_0)) (df hp54_0)
      · rename_i hp55_0
        subst hA; exact hV.g55 _ _ _ _ _ _ hI0 (dt (nf hp8_0)) (df hp55_0)
      · rename_i hp56_0
        subst hA; exact hV.g56 _ _ _ _ _ _ hI0 (dt (nf hp8_0)) (df hp56_0)
end HX

namespace HX
open Go Go.Proofs CX
set_option maxHeartbeats 4000000 in
set_option maxRecDepth 100000 in
theorem walk41 {ro A pre fn} (hE : EnvOk ⟨A, (cxE ro), ksF, sigL [(51, ⟨[(false, [.sl [.int .i64, .int .i64, .int .i64]])], [(false, [.bool])], false⟩), (79, ⟨[(false, [.sl [.int .i64]]), (false, [.int .i64])], [(false, [.bool])], false⟩)], pre, fn⟩) {P : List (List D) → Prop} {res : List (List D) → Nat → Nat → D}
    (hv : ∀ (a0 : Int) (a1 : Int) (a2 : Rows), ShR [.int .i64] a2 → P [[.i a0], [.i a1], [.l a2]] → ∃ (I0 : Rows → Int → Prop) (m0 : Rows → Int → Nat) (I1 : Rows → Int → Rows → Int → Prop) (m1 : Rows → Int → Rows → Int → Nat) (I2 : Rows → Int → Rows → Int → Prop) (m2 : Rows → Int → Rows → Int → Nat), V41 pre fn a0 a1 a2 (res [[.i a0], [.i a1], [.l a2]]) I0 m0 I1 m1 I2 m2) :
    PureC (cxE ro) 41 ⟨[(false, [.int .i64]), (false, [.int .i64]), (false, [.sl [.int .i64]])], [(false, [.sl [.int .i64, .int .i64]]), (false, [.int .i64])], false⟩ P res := by
  have hA := hE.A
  simp only [] at hA
  have hinl : ∀ f fn, inlL [] f = some fn → (cxE ro).fn f = some fn ∧ (cxE ro).ext f = none := Inls.ok (by repeat (first | exact .nil | refine .cons rfl rfl ?_))
  refine PureC.of_vc hE hinl 6 (f := 41) (fn := Tryz.f41) ⟨rfl, rfl⟩ ?_
  intro a0 a1 a2 ha2 hP
  obtain ⟨R, hR⟩ : ∃ R, res [[.i a0], [.i a1], [.l a2]] = R := ⟨_, rfl⟩
  rw [hR]
  obtain ⟨I0, m0, I1, m1, I2, m2, hV⟩ := hv a0 a1 a2 ha2 hP
  rw [hR] at hV
  clear hR hP hv
  cbv
  repeat' (first | (refine Br.mk (fun _ => ?_) (fun _ => ?_) <;> cbv) | (refine NilB.mk (fun _ => ?_) ?_ <;> cbv) | refine And.intro ?_ ?_ | exact True.intro)
  · subst hA; exact hV.g0
  · rename_i hp1_0
    subst hA; exact hV.g1 (nt hp1_0)
  · rename_i hp2_0
    subst hA; exact hV.g2 (nt hp2_0)
  · rename_i hp3_0
    subst hA; exact hV.g3 (nf hp3_0)
  · rename_i hp4_0 hp4_1
    subst hA; exact hV.g4 (nf hp4_0) (nt hp4_1)
  · rename_i hp5_0 hp5_1
    subst hA; exact hV.g5 (nf hp5_0) (nt hp5_1)
  · rename_i hp6_0 hp6_1
    refine Leaf.gen fun σz hσz => ?_
    refine loopB hE hinl 6 [] [] [] (fun x : Rows × Int => [.l x.1, .i x.2]) (fun x => I0 x.1 x.2) (fun x => m0 x.1 x.2) ([[D.i 0, D.i (A.nat (A.len a2))]], 1) (by subst hA; exact hV.i0 (nf hp6_0) (nf hp6_1)) ?_ ?_ <;> subst hσz
    · clear hE hinl hV; cbv; (try (repeat' (first | exact True.intro | rfl | assumption | apply And.intro)))
    · intro ⟨x0_0, x0_1⟩ hI0 K0 hK0
      cbv
      repeat' (first | (refine Br.mk (fun _ => ?_) (fun _ => ?_) <;> cbv) | (refine NilB.mk (fun _ => ?_) ?_ <;> cbv) | refine And.intro ?_ ?_ | exact True.intro)
      · rename_i hp7_0
        refine Leaf.gen fun σz hσz => ?_
        refine loopB hE hinl 6 [] [] [] (fun x : Rows × Int => [.l x.1, .i x.2]) (fun x => I1 x0_0 x0_1 x.1 x.2) (fun x => m1 x0_0 x0_1 x.1 x.2) (x0_0, 0) (by subst hA; exact hV.i1 _ _ hI0 (nf hp6_0) (nf hp6_1) (dt hp7_0)) ?_ ?_ <;> subst hσz
        · clear hE hinl hV; cbv; (try (repeat' (first | exact True.intro | rfl | assumption | apply And.intro)))
        · intro ⟨x1_0, x1_1⟩ hI1 K1 hK1
          cbv
          repeat' (first | (refine Br.mk (fun _ => ?_) (fun _ => ?_) <;> cbv) | (refine NilB.mk (fun _ => ?_) ?_ <;> cbv) | refine And.intro ?_ ?_ | exact True.intro)
          · rename_i hp8_0
            subst hA; exact hV.g8 _ _ hI0 _ _ hI1 (nf hp6_0) (nf hp6_1) (dt hp7_0) (dt hp8_0)
          · rename_i hp9_0
            subst hA; exact hV.g9 _ _ hI0 _ _ hI1 (nf hp6_0) (nf hp6_1) (dt hp7_0) (dt hp9_0)
          · rename_i hp10_0 hp10_1
            subst hA; exact hV.g10 _ _ hI0 _ _ hI1 (nf hp6_0) (nf hp6_1) (dt hp7_0) (dt hp10_0) (dt hp10_1)
          · rename_i hp11_0 hp11_1
            subst hA; exact hV.g11 _ _ hI0 _ _ hI1 (nf hp6_0) (nf hp6_1) (dt hp7_0) (dt hp11_0) (dt hp11_1)
          · rename_i hp12_0 hp12_1
            refine hK1 (A.app x1_0 [[D.i x0_1, D.i x1_1]], A.add x1_1 1) _ ?_ ?_ ?_
            · subst hA; exact (hV.n12 _ _ hI0 _ _ hI1 (nf hp6_0) (nf hp6_1) (dt hp7_0) (dt hp12_0) (dt hp12_1)).1
            · subst hA; exact (hV.n12 _ _ hI0 _ _ hI1 (nf hp6_0) (nf hp6_1) (dt hp7_0) (dt hp12_0) (dt hp12_1)).2
            · clear hE hinl hV hK1; cbv; (try (repeat' (first | exact True.intro | rfl | assumption | apply And.intro)))
          · rename_i hp13_0 hp13_1
            subst hA; exact hV.g13 _ _ hI0 _ _ hI1 (nf hp6_0) (nf hp6_1) (dt hp7_0) (dt hp13_0) (df hp13_1)
          · rename_i hp14_0 hp14_1
            refine hK1 (x1_0, A.add x1_1 1) _ ?_ ?_ ?_
            · subst hA; exact (hV.n14 _ _ hI0 _ _ hI1 (nf hp6_0) (nf hp6_1) (dt hp7_0) (dt hp14_0) (df hp14_1)).1
            · subst hA; exact (hV.n14 _ _ hI0 _ _ hI1 (nf hp6_0) (nf hp6_1) (dt hp7_0) (dt hp14_0) (df hp14_1)).2
            · clear hE hinl hV hK1; cbv; (try (repeat' (first | exact True.intro | rfl | assumption | apply And.intro)))
          · rename_i hp15_0
            subst hA; exact hV.g15 _ _ hI0 _ _ hI1 (nf hp6_0) (nf hp6_1) (dt hp7_0) (df hp15_0)
          · rename_i hp16_0
            refine hK0 (x1_0, A.add x0_1 1) _ ?_ ?_ ?_
            · subst hA; exact (hV.n16 _ _ hI0 _ _ hI1 (nf hp6_0) (nf hp6_1) (dt hp7_0) (df hp16_0)).1
            · subst hA; exact (hV.n16 _ _ hI0 _ _ hI1 (nf hp6_0) (nf hp6_1) (dt hp7_0) (df hp16_0)).2
            · clear hE hinl hV hK0; cbv; (try (repeat' (first | exact True.intro | rfl | assumption | apply And.intro)))
      · rename_i hp17_0
        refine Leaf.gen fun σz hσz => ?_
        refine loopB hE hinl 6 [] [] [] (fun x : Rows × Int => [.l x.1, .i x.2]) (fun x => I2 x0_0 x0_1 x.1 x.2) (fun x => m2 x0_0 x0_1 x.1 x.2) (x0_0, 0) (by subst hA; exact hV.i2 _ _ hI0 (nf hp6_0) (nf hp6_1) (df hp17_0)) ?_ ?_ <;> subst hσz
        · clear hE hinl hV; cbv; (try (repeat' (first | exact True.intro | rfl | assumption | apply And.intro)))
        · intro ⟨x2_0, x2_1⟩ hI2 K2 hK2
          cbv
          repeat' (first | (refine Br.mk (fun _ => ?_) (fun _ => ?_) <;> cbv) | (refine NilB.mk (fun _ => ?_) ?_ <;> cbv) | refine And.intro ?_ ?_ | exact True.intro)
          · rename_i hp18_0
            subst hA; exact hV.g18 _ _ hI0 _ _ hI2 (nf hp6_0) (nf hp6_1) (df hp17_0) (dt hp18_0)
          · rename_i hp19_0
            subst hA; exact hV.g19 _ _ hI0 _ _ hI2 (nf hp6_0) (nf hp6_1) (df hp17_0) (dt hp19_0)
          · rename_i hp20_0
            subst hA; exact hV.g20 _ _ hI0 _ _ hI2 (nf hp6_0) (nf hp6_1) (df hp17_0) (dt hp20_0)
          · rename_i hp21_0
            subst hA; exact hV.g21 _ _ hI0 _ _ hI2 (nf hp6_0) (nf hp6_1) (df hp17_0) (dt hp21_0)
          · rename_i hp22_0
            subst hA; exact hV.g22 _ _ hI0 _ _ hI2 (nf hp6_0) (nf hp6_1) (df hp17_0) (dt hp22_0)
          · rename_i hp23_0
            subst hA; exact hV.g23 _ _ hI0 _ _ hI2 (nf hp6_0) (nf hp6_1) (df hp17_0) (dt hp23_0)
          · rename_i hp24_0
            subst hA; exact hV.g24 _ _ hI0 _ _ hI2 (nf hp6_0) (nf hp6_1) (df hp17_0) (dt hp24_0)
          · rename_i hp25_0
            subst hA; exact hV.g25 _ _ hI0 _ _ hI2 (nf hp6_0) (nf hp6_1) (df hp17_0) (dt hp25_0)
          · rename_i hp26_0
            subst hA; exact hV.g22 _ _ hI0 _ _ hI2 (nf hp6_0) (nf hp6_1) (df hp17_0) (dt hp26_0)
          · rename_i hp27_0
            subst hA; exact hV.g27 _ _ hI0 _ _ hI2 (nf hp6_0) (nf hp6_1) (df hp17_0) (dt hp27_0)
          · rename_i hp28_0
            subst hA; exact hV.g28 _ _ hI0 _ _ hI2 (nf hp6_0) (nf hp6_1) (df hp17_0) (dt hp28_0)
          · rename_i hp29_0
            subst hA; exact hV.g18 _ _ hI0 _ _ hI2 (nf hp6_0) (nf hp6_1) (df hp17_0) (dt hp29_0)
          · rename_i hp30_0
            refine hK2 (A.app x2_0 [[D.i (A.mul (A.add x2_1 1) (A.add a1 1)), D.i (A.add (A.add (A.nat (A.len a2)) 1) (A.mul 2 x2_1))], [D.i (A.add (A.mul (A.add x2_1 1) (A.add a1 1)) a1), D.i (A.add (A.add (A.nat (A.len a2)) 2) (A.mul 2 x2_1))]], A.add x2_1 1) _ ?_ ?_ ?_
            · subst hA; exact (hV.n30 _ _ hI0 _ _ hI2 (nf hp6_0) (nf hp6_1) (df hp17_0) (dt hp30_0)).1
            · subst hA; exact (hV.n30 _ _ hI0 _ _ hI2 (nf hp6_0) (nf hp6_1) (df hp17_0) (dt hp30_0)).2
            · clear hE hinl hV hK2; cbv; (try (repeat' (first | exact True.intro | rfl | assumption | apply And.intro)))
          · rename_i hp31_0
            subst hA; exact hV.g31 _ _ hI0 _ _ hI2 (nf hp6_0) (nf hp6_1) (df hp17_0) (df hp31_0)
          · rename_i hp32_0
            subst hA; exact hV.g32 _ _ hI0 _ _ hI2 (nf hp6_0) (nf hp6_1) (df hp17_0) (df hp32_0)
end HX

namespace HX
open Go Go.Proofs CX
set_option maxHeartbeats 4000000 in
set_option maxRecDepth 100000 in
theorem walk42 {ro A pre fn} (hE : EnvOk ⟨A, (cxE ro), ksF, sigL [], pre, fn⟩) {P : List (List D) → Prop} {res : List (List D) → Nat → Nat → D}
    (hv : ∀ (a0 : Int) (a1 : Int) (a2 : Rows), ShR [.int .i64] a2 → P [[.i a0], [.i a1], [.l a2]] → ∃ (I0 : Rows → Int → Int → Prop) (m0 : Rows → Int → Int → Nat) (I1 : Rows → Int → Int → Rows → Int → Prop) (m1 : Rows → Int → Int → Rows → Int → Nat) (I2 : Rows → Int → Int → Rows → Int → Rows → Int → Prop) (m2 : Rows → Int → Int → Rows → Int → Rows → Int → Nat) (I3 : Rows → Int → Int → Rows → Int → Rows → Int → Rows → Int → Prop) (m3 : Rows → Int → Int → Rows → Int → Rows → Int → Rows → Int → Nat) (I4 : Rows → Int → Int → Rows → Int → Rows → Int → Rows → Int → Prop) (m4 : Rows → Int → Int → Rows → Int → Rows → Int → Rows → Int → Nat), V42 a0 a1 a2 (res [[.i a0], [.i a1], [.l a2]]) I0 m0 I1 m1 I2 m2 I3 m3 I4 m4) :
    PureC (cxE ro) 42 ⟨[(false, [.int .i64]), (false, [.int .i64]), (false, [.sl [.int .i64]])], [(false, [.sl [.int .i64, .int .i64]]), (false, [.int .i64])], false⟩ P res := by
  have hA := hE.A
  simp only [] at hA
  have hinl : ∀ f fn, inlL [(52, Tryz.f52)] f = some fn → (cxE ro).fn f = some fn ∧ (cxE ro).ext f = none := Inls.ok (by repeat (first | exact .nil | refine .cons rfl rfl ?_))
  refine PureC.of_vc hE hinl 6 (f := 42) (fn := Tryz.f42) ⟨rfl, rfl⟩ ?_
  intro a0 a1 a2 ha2 hP
  obtain ⟨R, hR⟩ : ∃ R, res [[.i a0], [.i a1], [.l a2]] = R := ⟨_, rfl⟩
  rw [hR]
  obtain ⟨I0, m0, I1, m1, I2, m2, I3, m3, I4, m4, hV⟩ := hv a0 a1 a2 ha2 hP
  rw [hR] at hV
  clear hR hP hv
  cbv
  repeat' (first | (refine Br.mk (fun _ => ?_) (fun _ => ?_) <;> cbv) | (refine NilB.mk (fun _ => ?_) ?_ <;> cbv) | refine And.intro ?_ ?_ | exact True.intro)
  · rename_i hp0_0 hp0_1
    subst hA; exact hV.g0 (dt hp0_0) (df (nt hp0_1))
  · rename_i hp1_0 hp1_1
    subst hA; exact hV.g1 (dt hp1_0) (df (nt hp1_1))
  · rename_i hp2_0 hp2_1 hp2_2 hp2_3
    subst hA; exact hV.g2 (dt hp2_0) (dt (nf hp2_1)) (dt hp2_2) (df (nt hp2_3))
  · rename_i hp3_0 hp3_1 hp3_2 hp3_3
    subst hA; exact hV.g3 (dt hp3_0) (dt (nf hp3_1)) (dt hp3_2) (df (nt hp3_3))
  · rename_i hp4_0 hp4_1 hp4_2 hp4_3 hp4_4 hp4_5
    subst hA; exact hV.g4 (dt hp4_0) (dt (nf hp4_1)) (dt hp4_2) (dt (nf hp4_3)) (dt hp4_4) (df (nt hp4_5))
  · rename_i hp5_0 hp5_1 hp5_2 hp5_3 hp5_4 hp5_5
    subst hA; exact hV.g5 (dt hp5_0) (dt (nf hp5_1)) (dt hp5_2) (dt (nf hp5_3)) (dt hp5_4) (df (nt hp5_5))
  · rename_i hp6_0 hp6_1 hp6_2 hp6_3 hp6_4 hp6_5
    refine Leaf.gen fun σz hσz => ?_
    refine loopB hE hinl 6 [] [] [] (fun x : Rows × Int × Int => [.l x.1, .i x.2.1, .i x.2.2]) (fun x => I0 x.1 x.2.1 x.2.2) (fun x => m0 x.1 x.2.1 x.2.2) ([], 0, 0) (by subst hA; exact hV.i0 (dt hp6_0) (dt (nf hp6_1)) (dt hp6_2) (dt (nf hp6_3)) (dt hp6_4) (dt (nf hp6_5))) ?_ ?_ <;> subst hσz
    · clear hE hinl hV; cbv; (try (repeat' (first | exact True.intro | rfl | assumption | apply And.intro)))
    · intro ⟨x0_0, x0_1, x0_2⟩ hI0 K0 hK0
      cbv
      repeat' (first | (refine Br.mk (fun _ => ?_) (fun _ => ?_) <;> cbv) | (refine NilB.mk (fun _ => ?_) ?_ <;> cbv) | refine And.intro ?_ ?_ | exact True.intro)
      · rename_i hp7_0
        subst hA; exact hV.g7 _ _ _ hI0 (dt hp6_0) (dt (nf hp6_1)) (dt hp6_2) (dt (nf hp6_3)) (dt hp6_4) (dt (nf hp6_5)) (dt hp7_0)
      · rename_i hp8_0
        subst hA; exact hV.g8 _ _ _ hI0 (dt hp6_0) (dt (nf hp6_1)) (dt hp6_2) (dt (nf hp6_3)) (dt hp6_4) (dt (nf hp6_5)) (dt hp8_0)
      · rename_i hp9_0 hp9_1 hp9_2
        subst hA; exact hV.g9 _ _ _ hI0 (dt hp6_0) (dt (nf hp6_1)) (dt hp6_2) (dt (nf hp6_3)) (dt hp6_4) (dt (nf hp6_5)) (dt hp9_0) (dt hp9_1) (df (nt hp9_2))
      · rename_i hp10_0 hp10_1 hp10_2
        subst hA; exact hV.g10 _ _ _ hI0 (dt hp6_0) (dt (nf hp6_1)) (dt hp6_2) (dt (nf hp6_3)) (dt hp6_4) (dt (nf hp6_5)) (dt hp10_0) (dt hp10_1) (df (nt hp10_2))
      · rename_i hp11_0 hp11_1 hp11_2
        subst hA; exact hV.g11 _ _ _ hI0 (dt hp6_0) (dt (nf hp6_1)) (dt hp6_2) (dt (nf hp6_3)) (dt hp6_4) (dt (nf hp6_5)) (dt hp11_0) (dt hp11_1) (dt (nf hp11_2))
      · rename_i hp12_0 hp12_1 hp12_2
        refine hK0 (x0_0, x0_1, A.add x0_2 1) _ ?_ ?_ ?_
        · subst hA; exact (hV.n12 _ _ _ hI0 (dt hp6_0) (dt (nf hp6_1)) (dt hp6_2) (dt (nf hp6_3)) (dt hp6_4) (dt (nf hp6_5)) (dt hp12_0) (dt hp12_1) (dt (nf hp12_2))).1
        · subst hA; exact (hV.n12 _ _ _ hI0 (dt hp6_0) (dt (nf hp6_1)) (dt hp6_2) (dt (nf hp6_3)) (dt hp6_4) (dt (nf hp6_5)) (dt hp12_0) (dt hp12_1) (dt (nf hp12_2))).2
        · clear hE hinl hV hK0; cbv; (try (repeat' (first | exact True.intro | rfl | assumption | apply And.intro)))
      · rename_i hp13_0 hp13_1
        subst hA; exact hV.g13 _ _ _ hI0 (dt hp6_0) (dt (nf hp6_1)) (dt hp6_2) (dt (nf hp6_3)) (dt hp6_4) (dt (nf hp6_5)) (dt hp13_0) (df hp13_1)
      · rename_i hp14_0 hp14_1
        subst hA; exact hV.g14 _ _ _ hI0 (dt hp6_0) (dt (nf hp6_1)) (dt hp6_2) (dt (nf hp6_3)) (dt hp6_4) (dt (nf hp6_5)) (dt hp14_0) (df hp14_1)
      · rename_i hp15_0
        refine Leaf.gen fun σz hσz => ?_
        refine loopB hE hinl 6 [] [] [] (fun x : Rows × Int => [.l x.1, .i x.2]) (fun x => I1 x0_0 x0_1 x0_2 x.1 x.2) (fun x => m1 x0_0 x0_1 x0_2 x.1 x.2) ([], 0) (by subst hA; exact hV.i1 _ _ _ hI0 (dt hp6_0) (dt (nf hp6_1)) (dt hp6_2) (dt (nf hp6_3)) (dt hp6_4) (dt (nf hp6_5)) (df hp15_0)) ?_ ?_ <;> subst hσz
        · clear hE hinl hV; cbv; (try (repeat' (first | exact True.intro | rfl | assumption | apply And.intro)))
        · intro ⟨x1_0, x1_1⟩ hI1 K1 hK1
          cbv
          repeat' (first | (refine Br.mk (fun _ => ?_) (fun _ => ?_) <;> cbv) | (refine NilB.mk (fun _ => ?_) ?_ <;> cbv) | refine And.intro ?_ ?_ | exact True.intro)
          · subst hA; exact hV.g16 _ _ _ hI0 _ _ hI1 (dt hp6_0) (dt (nf hp6_1)) (dt hp6_2) (dt (nf hp6_3)) (dt hp6_4) (dt (nf hp6_5)) (df hp15_0)
          · subst hA; exact hV.g17 _ _ _ hI0 _ _ hI1 (dt hp6_0) (dt (nf hp6_1)) (dt hp6_2) (dt (nf hp6_3)) (dt hp6_4) (dt (nf hp6_5)) (df hp15_0)
          · subst hA; exact hV.g18 _ _ _ hI0 _ _ hI1 (dt hp6_0) (dt (nf hp6_1)) (dt hp6_2) (dt (nf hp6_3)) (dt hp6_4) (dt (nf hp6_5)) (df hp15_0)
          · rename_i hp19_0
            refine Leaf.gen fun σz hσz => ?_
            refine loopB hE hinl 6 [] [] [] (fun x : Rows × Int => [.l x.1, .i x.2]) (fun x => I2 x0_0 x0_1 x0_2 x1_0 x1_1 x.1 x.2) (fun x => m2 x0_0 x0_1 x0_2 x1_0 x1_1 x.1 x.2) (x1_0, 0) (by subst hA; exact hV.i2 _ _ _ hI0 _ _ hI1 (dt hp6_0) (dt (nf hp6_1)) (dt hp6_2) (dt (nf hp6_3)) (dt hp6_4) (dt (nf hp6_5)) (df hp15_0) (dt hp19_0)) ?_ ?_ <;> subst hσz
            · clear hE hinl hV; cbv; (try (repeat' (first | exact True.intro | rfl | assumption | apply And.intro)))
            · intro ⟨x2_0, x2_1⟩ hI2 K2 hK2
              cbv
              repeat' (first | (refine Br.mk (fun _ => ?_) (fun _ => ?_) <;> cbv) | (refine NilB.mk (fun _ => ?_) ?_ <;> cbv) | refine And.intro ?_ ?_ | exact True.intro)
              · rename_i hp20_0 hp20_1
                subst hA; exact hV.g20 _ _ _ hI0 _ _ hI1 _ _ hI2 (dt hp6_0) (dt (nf hp6_1)) (dt hp6_2) (dt (nf hp6_3)) (dt hp6_4) (dt (nf hp6_5)) (df hp15_0) (dt hp19_0) (dt hp20_0) (dt hp20_1)
              · rename_i hp21_0 hp21_1
                subst hA; exact hV.g21 _ _ _ hI0 _ _ hI1 _ _ hI2 (dt hp6_0) (dt (nf hp6_1)) (dt hp6_2) (dt (nf hp6_3)) (dt hp6_4) (dt (nf hp6_5)) (df hp15_0) (dt hp19_0) (dt hp21_0) (dt hp21_1)
              · rename_i hp22_0 hp22_1 hp22_2
                subst hA; exact hV.g22 _ _ _ hI0 _ _ hI1 _ _ hI2 (dt hp6_0) (dt (nf hp6_1)) (dt hp6_2) (dt (nf hp6_3)) (dt hp6_4) (dt (nf hp6_5)) (df hp15_0) (dt hp19_0) (dt hp22_0) (dt hp22_1) (dt hp22_2)
              · rename_i hp23_0 hp23_1 hp23_2
                subst hA; exact hV.g23 _ _ _ hI0 _ _ hI1 _ _ hI2 (dt hp6_0) (dt (nf hp6_1)) (dt hp6_2) (dt (nf hp6_3)) (dt hp6_4) (dt (nf hp6_5)) (df hp15_0) (dt hp19_0) (dt hp23_0) (dt hp23_1) (dt hp23_2)
              · rename_i hp24_0 hp24_1 hp24_2
                refine hK2 (A.app x2_0 [[D.i x1_1, D.i x2_1]], A.add x2_1 1) _ ?_ ?_ ?_
                · subst hA; exact (hV.n24 _ _ _ hI0 _ _ hI1 _ _ hI2 (dt hp6_0) (dt (nf hp6_1)) (dt hp6_2) (dt (nf hp6_3)) (dt hp6_4) (dt (nf hp6_5)) (df hp15_0) (dt hp19_0) (dt hp24_0) (dt hp24_1) (dt hp24_2)).1
                · subst hA; exact (hV.n24 _ _ _ hI0 _ _ hI1 _ _ hI2 (dt hp6_0) (dt (nf hp6_1)) (dt hp6_2) (dt (nf hp6_3)) (dt hp6_4) (dt (nf hp6_5)) (df hp15_0) (dt hp19_0) (dt hp24_0) (dt hp24_1) (dt hp24_2)).2
                · clear hE hinl hV hK2; cbv; (try (repeat' (first | exact True.intro | rfl | assumption | apply And.intro)))
              · rename_i hp25_0 hp25_1 hp25_2
                subst hA; exact hV.g25 _ _ _ hI0 _ _ hI1 _ _ hI2 (dt hp6_0) (dt (nf hp6_1)) (dt hp6_2) (dt (nf hp6_3)) (dt hp6_4) (dt (nf hp6_5)) (df hp15_0) (dt hp19_0) (dt hp25_0) (dt hp25_1) (df hp25_2)
              · rename_i hp26_0 hp26_1 hp26_2
                refine hK2 (x2_0, A.add x2_1 1) _ ?_ ?_ ?_
                · subst hA; exact (hV.n26 _ _ _ hI0 _ _ hI1 _ _ hI2 (dt hp6_0) (dt (nf hp6_1)) (dt hp6_2) (dt (nf hp6_3)) (dt hp6_4) (dt (nf hp6_5)) (df hp15_0) (dt hp19_0) (dt hp26_0) (dt hp26_1) (df hp26_2)).1
                · subst hA; exact (hV.n26 _ _ _ hI0 _ _ hI1 _ _ hI2 (dt hp6_0) (dt (nf hp6_1)) (dt hp6_2) (dt (nf hp6_3)) (dt hp6_4) (dt (nf hp6_5)) (df hp15_0) (dt hp19_0) (dt hp26_0) (dt hp26_1) (df hp26_2)).2
                · clear hE hinl hV hK2; cbv; (try (repeat' (first | exact True.intro | rfl | assumption | apply And.intro)))
              · rename_i hp27_0 hp27_1
                subst hA; exact hV.g27 _ _ _ hI0 _ _ hI1 _ _ hI2 (dt hp6_0) (dt (nf hp6_1)) (dt hp6_2) (dt (nf hp6_3)) (dt hp6_4) (dt (nf hp6_5)) (df hp15_0) (dt hp19_0) (dt hp27_0) (df hp27_1)
              · rename_i hp28_0 hp28_1
                refine hK2 (x2_0, A.add x2_1 1) _ ?_ ?_ ?_
                · subst hA; exact (hV.n28 _ _ _ hI0 _ _ hI1 _ _ hI2 (dt hp6_0) (dt (nf hp6_1)) (dt hp6_2) (dt (nf hp6_3)) (dt hp6_4) (dt (nf hp6_5)) (df hp15_0) (dt hp19_0) (dt hp28_0) (df hp28_1)).1
                · subst hA; exact (hV.n28 _ _ _ hI0 _ _ hI1 _ _ hI2 (dt hp6_0) (dt (nf hp6_1)) (dt hp6_2) (dt (nf hp6_3)) (dt hp6_4) (dt (nf hp6_5)) (df hp15_0) (dt hp19_0) (dt hp28_0) (df hp28_1)).2
                · clear hE hinl hV hK2; cbv; (try (repeat' (first | exact True.intro | rfl | assumption | apply And.intro)))
              · rename_i hp29_0 hp29_1
                subst hA; exact hV.g29 _ _ _ hI0 _ _ hI1 _ _ hI2 (dt hp6_0) (dt (nf hp6_1)) (dt hp6_2) (dt (nf hp6_3)) (dt hp6_4) (dt (nf hp6_5)) (df hp15_0) (dt hp19_0) (df hp29_0) (dt hp29_1)
              · rename_i hp30_0 hp30_1
                refine Leaf.gen fun σz hσz => ?_
                refine loopB hE hinl 6 [] [] [] (fun x : Rows × Int => [.l x.1, .i x.2]) (fun x => I3 x0_0 x0_1 x0_2 x1_0 x1_1 x2_0 x2_1 x.1 x.2) (fun x => m3 x0_0 x0_1 x0_2 x1_0 x1_1 x2_0 x2_1 x.1 x.2) (A.app x2_0 [[D.i 0, D.i (A.nat (A.len a2))]], 0) (by subst hA; exact hV.i3 _ _ _ hI0 _ _ hI1 _ _ hI2 (dt hp6_0) (dt (nf hp6_1)) (dt hp6_2) (dt (nf hp6_3)) (dt hp6_4) (dt (nf hp6_5)) (df hp15_0) (dt hp19_0) (df hp30_0) (dt hp30_1)) ?_ ?_ <;> subst hσz
                · clear hE hinl hV; cbv; (try (repeat' (first | exact True.intro | rfl | assumption | apply And.intro)))
                · intro ⟨x3_0, x3_1⟩ hI3 K3 hK3
                  cbv
                  repeat' (first | (refine Br.mk (fun _ => ?_) (fun _ => ?_) <;> cbv) | (refine NilB.mk (fun _ => ?_) ?_ <;> cbv) | refine And.intro ?_ ?_ | exact True.intro)
                  · rename_i hp31_0
                    subst hA; exact hV.g31 _ _ _ hI0 _ _ hI1 _ _ hI2 _ _ hI3 (dt hp6_0) (dt (nf hp6_1)) (dt hp6_2) (dt (nf hp6_3)) (dt hp6_4) (dt (nf hp6_5)) (df hp15_0) (dt hp19_0) (df hp30_0) (dt hp30_1) (dt hp31_0)
                  · rename_i hp32_0
                    subst hA; exact hV.g32 _ _ _ hI0 _ _ hI1 _ _ hI2 _ _ hI3 (dt hp6_0) (dt (nf hp6_1)) (dt hp6_2) (dt (nf hp6_3)) (dt hp6_4) (dt (nf hp6_5)) (df hp15_0) (dt hp19_0) (df hp30_0) (dt hp30_1) (dt hp32_0)
                  · rename_i hp33_0
                    subst hA; exact hV.g33 _ _ _ hI0 _ _ hI1 _ _ hI2 _ _ hI3 (dt hp6_0) (dt (nf hp6_1)) (dt hp6_2) (dt (nf hp6_3)) (dt hp6_4) (dt (nf hp6_5)) (df hp15_0) (dt hp19_0) (df hp30_0) (dt hp30_1) (dt hp33_0)
                  · rename_i hp34_0 hp34_1
                    subst hA; exact hV.g34 _ _ _ hI0 _ _ hI1 _ _ hI2 _ _ hI3 (dt hp6_0) (dt (nf hp6_1)) (dt hp6_2) (dt (nf hp6_3)) (dt hp6_4) (dt (nf hp6_5)) (df hp15_0) (dt hp19_0) (df hp30_0) (dt hp30_1) (dt hp34_0) (dt hp34_1)
                  · rename_i hp35_0 hp35_1
                    subst hA; exact hV.g35 _ _ _ hI0 _ _ hI1 _ _ hI2 _ _ hI3 (dt hp6_0) (dt (nf hp6_1)) (dt hp6_2) (dt (nf hp6_3)) (dt hp6_4) (dt (nf hp6_5)) (df hp15_0) (dt hp19_0) (df hp30_0) (dt hp30_1) (dt hp35_0) (dt hp35_1)
                  · rename_i hp36_0 hp36_1
                    subst hA; exact hV.g36 _ _ _ hI0 _ _ hI1 _ _ hI2 _ _ hI3 (dt hp6_0) (dt (nf hp6_1)) (dt hp6_2) (dt (nf hp6_3)) (dt hp6_4) (dt (nf hp6_5)) (df hp15_0) (dt hp19_0) (df hp30_0) (dt hp30_1) (dt hp36_0) (dt hp36_1)
                  · rename_i hp37_0 hp37_1
                    subst hA; exact hV.g37 _ _ _ hI0 _ _ hI1 _ _ hI2 _ _ hI3 (dt hp6_0) (dt (nf hp6_1)) (dt hp6_2) (dt (nf hp6_3)) (dt hp6_4) (dt (nf hp6_5)) (df hp15_0) (dt hp19_0) (df hp30_0) (dt hp30_1) (dt hp37_0) (dt hp37_1)
                  · rename_i hp38_0 hp38_1
                    subst hA; exact hV.g38 _ _ _ hI0 _ _ hI1 _ _ hI2 _ _ hI3 (dt hp6_0) (dt (nf hp6_1)) (dt hp6_2) (dt (nf hp6_3)) (dt hp6_4) (dt (nf hp6_5)) (df hp15_0) (dt hp19_0) (df hp30_0) (dt hp30_1) (dt hp38_0) (dt hp38_1)
                  · rename_i hp39_0 hp39_1 hp39_2
                    subst hA; exact hV.g39 _ _ _ hI0 _ _ hI1 _ _ hI2 _ _ hI3 (dt hp6_0) (dt (nf hp6_1)) (dt hp6_2) (dt (nf hp6_3)) (dt hp6_4) (dt (nf hp6_5)) (df hp15_0) (dt hp19_0) (df hp30_0) (dt hp30_1) (dt hp39_0) (dt hp39_1) (dt hp39_2)
                  · rename_i hp40_0 hp40_1 hp40_2
                    subst hA; exact hV.g40 _ _ _ hI0 _ _ hI1 _ _ hI2 _ _ hI3 (dt hp6_0) (dt (nf hp6_1)) (dt hp6_2) (dt (nf hp6_3)) (dt hp6_4) (dt (nf hp6_5)) (df hp15_0) (dt hp19_0) (df hp30_0) (dt hp30_1) (dt hp40_0) (dt hp40_1) (dt hp40_2)
                  · rename_i hp41_0 hp41_1 hp41_2
                    subst hA; exact hV.g41 _ _ _ hI0 _ _ hI1 _ _ hI2 _ _ hI3 (dt hp6_0) (dt (nf hp6_1)) (dt hp6_2) (dt (nf hp6_3)) (dt hp6_4) (dt (nf hp6_5)) (df hp15_0) (dt hp19_0) (df hp30_0) (dt hp30_1) (dt hp41_0) (dt hp41_1) (dt hp41_2)
                  · rename_i hp42_0 hp42_1 hp42_2
                    subst hA; exact hV.g42 _ _ _ hI0 _ _ hI1 _ _ hI2 _ _ hI3 (dt hp6_0) (dt (nf hp6_1)) (dt hp6_2) (dt (nf hp6_3)) (dt hp6_4) (dt (nf hp6_5)) (df hp15_0) (dt hp19_0) (df hp30_0) (dt hp30_1) (dt hp42_0) (dt hp42_1) (dt hp42_2)
                  · rename_i hp43_0 hp43_1 hp43_2
                    subst hA; exact hV.g43 _ _ _ hI0 _ _ hI1 _ _ hI2 _ _ hI3 (dt hp6_0) (dt (nf hp6_1)) (dt hp6_2) (dt (nf hp6_3)) (dt hp6_4) (dt (nf hp6_5)) (df hp15_0) (dt hp19_0) (df hp30_0) (dt hp30_1) (dt hp43_0) (dt hp43_1) (dt hp43_2)
                  · rename_i hp44_0 hp44_1 hp44_2
                    refine hK3 (A.app (A.app x3_0 [[D.i x1_1, D.i (A.add (A.add (A.nat (A.len a2)) 1) (A.mul 2 x3_1))]]) [[D.i x1_1, D.i (A.add (A.add (A.nat (A.len a2)) 2) (A.mul 2 x3_1))]], A.add x3_1 1) _ ?_ ?_ ?_
                    · subst hA; exact (hV.n44 _ _ _ hI0 _ _ hI1 _ _ hI2 _ _ hI3 (dt hp6_0) (dt (nf hp6_1)) (dt hp6_2) (dt (nf hp6_3)) (dt hp6_4) (dt (nf hp6_5)) (df hp15_0) (dt hp19_0) (df hp30_0) (dt hp30_1) (dt hp44_0) (dt hp44_1) (dt hp44_2)).1
                    · subst hA; exact (hV.n44 _ _ _ hI0 _ _ hI1 _ _ hI2 _ _ hI3 (dt hp6_0) (dt (nf hp6_1)) (dt hp6_2) (dt (nf hp6_3)) (dt hp6_4) (dt (nf hp6_5)) (df hp15_0) (dt hp19_0) (df hp30_0) (dt hp30_1) (dt hp44_0) (dt hp44_1) (dt hp44_2)).2
                    · clear hE hinl hV hK3; cbv; (try (repeat' (first | exact True.intro | rfl | assumption | apply And.intro)))
                  · rename_i hp45_0 hp45_1 hp45_2
                    subst hA; exact hV.g45 _ _ _ hI0 _ _ hI1 _ _ hI2 _ _ hI3 (dt hp6_0) (dt (nf hp6_1)) (dt hp6_2) (dt (nf hp6_3)) (dt hp6_4) (dt (nf hp6_5)) (df hp15_0) (dt hp19_0) (df hp30_0) (dt hp30_1) (dt hp45_0) (dt hp45_1) (df hp45_2)
                  · rename_i hp46_0 hp46_1 hp46_2
                    refine hK3 (A.app x3_0 [[D.i x1_1, D.i (A.add (A.add (A.nat (A.len a2)) 1) (A.mul 2 x3_1))]], A.add x3_1 1) _ ?_ ?_ ?_
                    · subst hA; exact (hV.n46 _ _ _ hI0 _ _ hI1 _ _ hI2 _ _ hI3 (dt hp6_0) (dt (nf hp6_1)) (dt hp6_2) (dt (nf hp6_3)) (dt hp6_4) (dt (nf hp6_5)) (df hp15_0) (dt hp19_0) (df hp30_0) (dt hp30_1) (dt hp46_0) (dt hp46_1) (df hp46_2)).1
                    · subst hA; exact (hV.n46 _ _ _ hI0 _ _ hI1 _ _ hI2 _ _ hI3 (dt hp6_0) (dt (nf hp6_1)) (dt hp6_2) (dt (nf hp6_3)) (dt hp6_4) (dt (nf hp6_5)) (df hp15_0) (dt hp19_0) (df hp30_0) (dt hp30_1) (dt hp46_0) (dt hp46_1) (df hp46_2)).2
                    · clear hE hinl hV hK3; cbv; (try (repeat' (first | exact True.intro | rfl | assumption | apply And.intro)))
                  · rename_i hp47_0 hp47_1
                    subst hA; exact hV.g47 _ _ _ hI0 _ _ hI1 _ _ hI2 _ _ hI3 (dt hp6_0) (dt (nf hp6_1)) (dt hp6_2) (dt (nf hp6_3)) (dt hp6_4) (dt (nf hp6_5)) (df hp15_0) (dt hp19_0) (df hp30_0) (dt hp30_1) (dt hp47_0) (df hp47_1)
                  · rename_i hp48_0 hp48_1 hp48_2
                    subst hA; exact hV.g48 _ _ _ hI0 _ _ hI1 _ _ hI2 _ _ hI3 (dt hp6_0) (dt (nf hp6_1)) (dt hp6_2) (dt (nf hp6_3)) (dt hp6_4) (dt (nf hp6_5)) (df hp15_0) (dt hp19_0) (df hp30_0) (dt hp30_1) (dt hp48_0) (df hp48_1) (dt hp48_2)
                  · rename_i hp49_0 hp49_1 hp49_2
                    subst hA; exact hV.g49 _ _ _ hI0 _ _ hI1 _ _ hI2 _ _ hI3 (dt hp6_0) (dt (nf hp6_1)) (dt hp6_2) (dt (nf hp6_3)) (dt hp6_4) (dt (nf hp6_5)) (df hp15_0) (dt hp19_0) (df hp30_0) (dt hp30_1) (dt hp49_0) (df hp49_1) (dt hp49_2)
                  · rename_i hp50_0 hp50_1 hp50_2
                    subst hA; exact hV.g50 _ _ _ hI0 _ _ hI1 _ _ hI2 _ _ hI3 (dt hp6_0) (dt (nf hp6_1)) (dt hp6_2) (dt (nf hp6_3)) (dt hp6_4) (dt (nf hp6_5)) (df hp15_0) (dt hp19_0) (df hp30_0) (dt hp30_1) (dt hp50_0) (df hp50_1) (dt hp50_2)
                  · rename_i hp51_0 hp51_1 hp51_2
                    subst hA; exact hV.g51 _ _ _ hI0 _ _ hI1 _ _ hI2 _ _ hI3 (dt hp6_0) (dt (nf hp6_1)) (dt hp6_2) (dt (nf hp6_3)) (dt hp6_4) (dt (nf hp6_5)) (df hp15_0) (dt hp19_0) (df hp30_0) (dt hp30_1) (dt hp51_0) (df hp51_1) (dt hp51_2)
                  · rename_i hp52_0 hp52_1 hp52_2
                    subst hA; exact hV.g52 _ _ _ hI0 _ _ hI1 _ _ hI2 _ _ hI3 (dt hp6_0) (dt (nf hp6_1)) (dt hp6_2) (dt (nf hp6_3)) (dt hp6_4) (dt (nf hp6_5)) (df hp15_0) (dt hp19_0) (df hp30_0) (dt hp30_1) (dt hp52_0) (df hp52_1) (dt hp52_2)
                  · rename_i hp53_0 hp53_1 hp53_2
                    refine hK3 (A.app x3_0 [[D.i x1_1, D.i (A.add (A.add (A.nat (A.len a2)) 2) (A.mul 2 x3_1))]], A.add x3_1 1) _ ?_ ?_ ?_
                    · subst hA; exact (hV.n53 _ _ _ hI0 _ _ hI1 _ _ hI2 _ _ hI3 (dt hp6_0) (dt (nf hp6_1)) (dt hp6_2) (dt (nf hp6_3)) (dt hp6_4) (dt (nf hp6_5)) (df hp15_0) (dt hp19_0) (df hp30_0) (dt hp30_1) (dt hp53_0) (df hp53_1) (dt hp53_2)).1
                    · subst hA; exact (hV.n53 _ _ _ hI0 _ _ hI1 _ _ hI2 _ _ hI3 (dt hp6_0) (dt (nf hp6_1)) (dt hp6_2) (dt (nf hp6_3)) (dt hp6_4) (dt (nf hp6_5)) (df hp15_0) (dt hp19_0) (df hp30_0) (dt hp30_1) (dt hp53_0) (df hp53_1) (dt hp53_2)).2
                    · clear hE hinl hV hK3; cbv; (try (repeat' (first | exact True.intro | rfl | assumption | apply And.intro)))
                  · rename_i hp54_0 hp54_1 hp54_2
                    subst hA; exact hV.g54 _ _ _ hI0 _ _ hI1 _ _ hI2 _ _ hI3 (dt hp6_0) (dt (nf hp6_1)) (dt hp6_2) (dt (nf hp6_3)) (dt hp6_4) (dt (nf hp6_5)) (df hp15_0) (dt hp19_0) (df hp30_0) (dt hp30_1) (dt hp54_0) (df hp54_1) (df hp54_2)
                  · rename_i hp55_0 hp55_1 hp55_2
                    refine hK3 (x3_0, A.add x3_1 1) _ ?_ ?_ ?_
                    · subst hA; exact (hV.n55 _ _ _ hI0 _ _ hI1 _ _ hI2 _ _ hI3 (dt hp6_0) (dt (nf hp6_1)) (dt hp6_2) (dt (nf hp6_3)) (dt hp6_4) (dt (nf hp6_5)) (df hp15_0) (dt hp19_0) (df hp30_0) (dt hp30_1) (dt hp55_0) (df hp55_1) (df hp55_2)).1
                    · subst hA; exact (hV.n55 _ _ _ hI0 _ _ hI1 _ _ hI2 _ _ hI3 (dt hp6_0) (dt (nf hp6_1)) (dt hp6_2) (dt (nf hp6_3)) (dt hp6_4) (dt (nf hp6_5)) (df hp15_0) (dt hp19_0) (df hp30_0) (dt hp30_1) (dt hp55_0) (df hp55_1) (df hp55_2)).2
                    · clear hE hinl hV hK3; cbv; (try (repeat' (first | exact True.intro | rfl | assumption | apply And.intro)))
                  · rename_i hp56_0
                    subst hA; exact hV.g56 _ _ _ hI0 _ _ hI1 _ _ hI2 _ _ hI3 (dt hp6_0) (dt (nf hp6_1)) (dt hp6_2) (dt (nf hp6_3)) (dt hp6_4) (dt (nf hp6_5)) (df hp15_0) (dt hp19_0) (df hp30_0) (dt hp30_1) (df hp56_0)
                  · rename_i hp57_0
                    refine hK1 (x3_0, A.add x1_1 1) _ ?_ ?_ ?_
                    · subst hA; exact (hV.n57 _ _ _ hI0 _ _ hI1 _ _ hI2 _ _ hI3 (dt hp6_0) (dt (nf hp6_1)) (dt hp6_2) (dt (nf hp6_3)) (dt hp6_4) (dt (nf hp6_5)) (df hp15_0) (dt hp19_0) (df hp30_0) (dt hp30_1) (df hp57_0)).1
                    · subst hA; exact (hV.n57 _ _ _ hI0 _ _ hI1 _ _ hI2 _ _ hI3 (dt hp6_0) (dt (nf hp6_1)) (dt hp6_2) (dt (nf hp6_3)) (dt hp6_4) (dt (nf hp6_5)) (df hp15_0) (dt hp19_0) (df hp30_0) (dt hp30_1) (df hp57_0)).2
                    · clear hE hinl hV hK1; cbv; (try (repeat' (first | exact True.intro | rfl | assumption | apply And.intro)))
              · rename_i hp58_0 hp58_1
                refine Leaf.gen fun σz hσz => ?_
                refine loopB hE hinl 6 [] [] [] (fun x : Rows × Int => [.l x.1, .i x.2]) (fun x => I4 x0_0 x0_1 x0_2 x1_0 x1_1 x2_0 x2_1 x.1 x.2) (fun x => m4 x0_0 x0_1 x0_2 x1_0 x1_1 x2_0 x2_1 x.1 x.2) (x2_0, 0) (by subst hA; exact hV.i4 _ _ _ hI0 _ _ hI1 _ _ hI2 (dt hp6_0) (dt (nf hp6_1)) (dt hp6_2) (dt (nf hp6_3)) (dt hp6_4) (dt (nf hp6_5)) (df hp15_0) (dt hp19_0) (df hp58_0) (df hp58_1)) ?_ ?_ <;> subst hσz
                · clear hE hinl hV; cbv; (try (repeat' (first | exact True.intro | rfl | assumption | apply And.intro)))
                · intro ⟨x4_0, x4_1⟩ hI4 K4 hK4
                  cbv
                  repeat' (first | (refine Br.mk (fun _ => ?_) (fun _ => ?_) <;> cbv) | (refine NilB.mk (fun _ => ?_) ?_ <;> cbv) | refine And.intro ?_ ?_ | exact True.intro)
                  · rename_i hp59_0
                    subst hA; exact hV.g59 _ _ _ hI0 _ _ hI1 _ _ hI2 _ _ hI4 (dt hp6_0) (dt (nf hp6_1)) (dt hp6_2) (dt (nf hp6_3)) (dt hp6_4) (dt (nf hp6_5)) (df hp15_0) (dt hp19_0) (df hp58_0) (df hp58_1) (dt hp59_0)
                  · rename_i hp60_0
                    subst hA; exact hV.g60 _ _ _ hI0 _ _ hI1 _ _ hI2 _ _ hI4 (dt hp6_0) (dt (nf hp6_1)) (dt hp6_2) (dt (nf hp6_3)) (dt hp6_4) (dt (nf hp6_5)) (df hp15_0) (dt hp19_0) (df hp58_0) (df hp58_1) (dt hp60_0)
                  · rename_i hp61_0
                    subst hA; exact hV.g61 _ _ _ hI0 _ _ hI1 _ _ hI2 _ _ hI4 (dt hp6_0) (dt (nf hp6_1)) (dt hp6_2) (dt (nf hp6_3)) (dt hp6_4) (dt (nf hp6_5)) (df hp15_0) (dt hp19_0) (df hp58_0) (df hp58_1) (dt hp61_0)
                  · rename_i hp62_0 hp62_1
                    subst hA; exact hV.g62 _ _ _ hI0 _ _ hI1 _ _ hI2 _ _ hI4 (dt hp6_0) (dt (nf hp6_1)) (dt hp6_2) (dt (nf hp6_3)) (dt hp6_4) (dt (nf hp6_5)) (df hp15_0) (dt hp19_0) (df hp58_0) (df hp58_1) (dt hp62_0) (dt hp62_1)
                  · rename_i hp63_0 hp63_1
                    subst hA; exact hV.g63 _ _ _ hI0 _ _ hI1 _ _ hI2 _ _ hI4 (dt hp6_0) (dt (nf hp6_1)) (dt hp6_2) (dt (nf hp6_3)) (dt hp6_4) (dt (nf hp6_5)) (df hp15_0) (dt hp19_0) (df hp58_0) (df hp58_1) (dt hp63_0) (dt hp63_1)
                  · rename_i hp64_0 hp64_1
                    subst hA; exact hV.g64 _ _ _ hI0 _ _ hI1 _ _ hI2 _ _ hI4 (dt hp6_0) (dt (nf hp6_1)) (dt hp6_2) (dt (nf hp6_3)) (dt hp6_4) (dt (nf hp6_5)) (df hp15_0) (dt hp19_0) (df hp58_0) (df hp58_1) (dt hp64_0) (dt hp64_1)
                  · rename_i hp65_0 hp65_1
                    subst hA; exact hV.g65 _ _ _ hI0 _ _ hI1 _ _ hI2 _ _ hI4 (dt hp6_0) (dt (nf hp6_1)) (dt hp6_2) (dt (nf hp6_3)) (dt hp6_4) (dt (nf hp6_5)) (df hp15_0) (dt hp19_0) (df hp58_0) (df hp58_1) (dt hp65_0) (dt hp65_1)
                  · rename_i hp66_0 hp66_1
                    subst hA; exact hV.g66 _ _ _ hI0 _ _ hI1 _ _ hI2 _ _ hI4 (dt hp6_0) (dt (nf hp6_1)) (dt hp6_2) (dt (nf hp6_3)) (dt hp6_4) (dt (nf hp6_5)) (df hp15_0) (dt hp19_0) (df hp58_0) (df hp58_1) (dt hp66_0) (dt hp66_1)
                  · rename_i hp67_0 hp67_1 hp67_2
                    subst hA; exact hV.g67 _ _ _ hI0 _ _ hI1 _ _ hI2 _ _ hI4 (dt hp6_0) (dt (nf hp6_1)) (dt hp6_2) (dt (nf hp6_3)) (dt hp6_4) (dt (nf hp6_5)) (df hp15_0) (dt hp19_0) (df hp58_0) (df hp58_1) (dt hp67_0) (dt hp67_1) (dt hp67_2)
                  · rename_i hp68_0 hp68_1 hp68_2
                    subst hA; exact hV.g68 _ _ _ hI0 _ _ hI1 _ _ hI2 _ _ hI4 (dt hp6_0) (dt (nf hp6_1)) (dt hp6_2) (dt (nf hp6_3)) (dt hp6_4) (dt (nf hp6_5)) (df hp15_0) (dt hp19_0) (df hp58_0) (df hp58_1) (dt hp68_0) (dt hp68_1) (dt hp68_2)
                  · rename_i hp69_0 hp69_1 hp69_2
                    subst hA; exact hV.g69 _ _ _ hI0 _ _ hI1 _ _ hI2 _ _ hI4 (dt hp6_0) (dt (nf hp6_1)) (dt hp6_2) (dt (nf hp6_3)) (dt hp6_4) (dt (nf hp6_5)) (df hp15_0) (dt hp19_0) (df hp58_0) (df hp58_1) (dt hp69_0) (dt hp69_1) (dt hp69_2)
                  · rename_i hp70_0 hp70_1 hp70_2
                    subst hA; exact hV.g70 _ _ _ hI0 _ _ hI1 _ _ hI2 _ _ hI4 (dt hp6_0) (dt (nf hp6_1)) (dt hp6_2) (dt (nf hp6_3)) (dt hp6_4) (dt (nf hp6_5)) (df hp15_0) (dt hp19_0) (df hp58_0) (df hp58_1) (dt hp70_0) (dt hp70_1) (dt hp70_2)
                  · rename_i hp71_0 hp71_1 hp71_2
                    subst hA; exact hV.g71 _ _ _ hI0 _ _ hI1 _ _ hI2 _ _ hI4 (dt hp6_0) (dt (nf hp6_1)) (dt hp6_2) (dt (nf hp6_3)) (dt hp6_4) (dt (nf hp6_5)) (df hp15_0) (dt hp19_0) (df hp58_0) (df hp58_1) (dt hp71_0) (dt hp71_1) (dt hp71_2)
                  · rename_i hp72_0 hp72_1 hp72_2
                    refine hK4 (A.app (A.app x4_0 [[D.i x1_1, D.i (A.add (A.add (A.nat (A.len a2)) 1) (A.mul 2 x4_1))]]) [[D.i x1_1, D.i (A.add (A.add (A.nat (A.len a2)) 2) (A.mul 2 x4_1))]], A.add x4_1 1) _ ?_ ?_ ?_
                    · subst hA; exact (hV.n72 _ _ _ hI0 _ _ hI1 _ _ hI2 _ _ hI4 (dt hp6_0) (dt (nf hp6_1)) (dt hp6_2) (dt (nf hp6_3)) (dt hp6_4) (dt (nf hp6_5)) (df hp15_0) (dt hp19_0) (df hp58_0) (df hp58_1) (dt hp72_0) (dt hp72_1) (dt hp72_2)).1
                    · subst hA; exact (hV.n72 _ _ _ hI0 _ _ hI1 _ _ hI2 _ _ hI4 (dt hp6_0) (dt (nf hp6_1)) (dt hp6_2) (dt (nf hp6_3)) (dt hp6_4) (dt (nf hp6_5)) (df hp15_0) (dt hp19_0) (df hp58_0) (df hp58_1) (dt hp72_0) (dt hp72_1) (dt hp72_2)).2
                    · clear hE hinl hV hK4; cbv; (try (repeat' (first | exact True.intro | rfl | assumption | apply And.intro)))
                  · rename_i hp73_0 hp73_1 hp73_2
                    subst hA; exact hV.g73 _ _ _ hI0 _ _ hI1 _ _ hI2 _ _ hI4 (dt hp6_0) (dt (nf hp6_1)) (dt hp6_2) (dt (nf hp6_3)) (dt hp6_4) (dt (nf hp6_5)) (df hp15_0) (dt hp19_0) (df hp58_0) (df hp58_1) (dt hp73_0) (dt hp73_1) (df hp73_2)
                  · rename_i hp74_0 hp74_1 hp74_2
                    refine hK4 (A.app x4_0 [[D.i x1_1, D.i (A.add (A.add (A.nat (A.len a2)) 1) (A.mul 2 x4_1))]], A.add x4_1 1) _ ?_ ?_ ?_
                    · subst hA; exact (hV.n74 _ _ _ hI0 _ _ hI1 _ _ hI2 _ _ hI4 (dt hp6_0) (dt (nf hp6_1)) (dt hp6_2) (dt (nf hp6_3)) (dt hp6_4) (dt (nf hp6_5)) (df hp15_0) (dt hp19_0) (df hp58_0) (df hp58_1) (dt hp74_0) (dt hp74_1) (df hp74_2)).1
                    · subst hA; exact (hV.n74 _ _ _ hI0 _ _ hI1 _ _ hI2 _ _ hI4 (dt hp6_0) (dt (nf hp6_1)) (dt hp6_2) (dt (nf hp6_3)) (dt hp6_4) (dt (nf hp6_5)) (df hp15_0) (dt hp19_0) (df hp58_0) (df hp58_1) (dt hp74_0) (dt hp74_1) (df hp74_2)).2
                    · clear hE hinl hV hK4; cbv; (try (repeat' (first | exact True.intro | rfl | assumption | apply And.intro)))
                  · rename_i hp75_0 hp75_1
                    subst hA; exact hV.g75 _ _ _ hI0 _ _ hI1 _ _ hI2 _ _ hI4 (dt hp6_0) (dt (nf hp6_1)) (dt hp6_2) (dt (nf hp6_3)) (dt hp6_4) (dt (nf hp6_5)) (df hp15_0) (dt hp19_0) (df hp58_0) (df hp58_1) (dt hp75_0) (df hp75_1)
                  · rename_i hp76_0 hp76_1 hp76_2
                    subst hA; exact hV.g76 _ _ _ hI0 _ _ hI1 _ _ hI2 _ _ hI4 (dt hp6_0) (dt (nf hp6_1)) (dt hp6_2) (dt (nf hp6_3)) (dt hp6_4) (dt (nf hp6_5)) (df hp15_0) (dt hp19_0) (df hp58_0) (df hp58_1) (dt hp76_0) (df hp76_1) (dt hp76_2)
                  · rename_i hp77_0 hp77_1 hp77_2
                    subst hA; exact hV.g77 _ _ _ hI0 _ _ hI1 _ _ hI2 _ _ hI4 (dt hp6_0) (dt (nf hp6_1)) (dt hp6_2) (dt (nf hp6_3)) (dt hp6_4) (dt (nf hp6_5)) (df hp15_0) (dt hp19_0) (df hp58_0) (df hp58_1) (dt hp77_0) (df hp77_1) (dt hp77_2)
                  · rename_i hp78_0 hp78_1 hp78_2
                    subst hA; exact hV.g78 _ _ _ hI0 _ _ hI1 _ _ hI2 _ _ hI4 (dt hp6_0) (dt (nf hp6_1)) (dt hp6_2) (dt (nf hp6_3)) (dt hp6_4) (dt (nf hp6_5)) (df hp15_0) (dt hp19_0) (df hp58_0) (df hp58_1) (dt hp78_0) (df hp78_1) (dt hp78_2)
                  · rename_i hp79_0 hp79_1 hp79_2
                    subst hA; exact hV.g79 _ _ _ hI0 _ _ hI1 _ _ hI2 _ _ hI4 (dt hp6_0) (dt (nf hp6_1)) (dt hp6_2) (dt (nf hp6_3)) (dt hp6_4) (dt (nf hp6_5)) (df hp15_0) (dt hp19_0) (df hp58_0) (df hp58_1) (dt hp79_0) (df hp79_1) (dt hp79_2)
                  · rename_i hp80_0 hp80_1 hp80_2
                    subst hA; exact hV.g80 _ _ _ hI0 _ _ hI1 _ _ hI2 _ _ hI4 (dt hp6_0) (dt (nf hp6_1)) (dt hp6_2) (dt (nf hp6_3)) (dt hp6_4) (dt (nf hp6_5)) (df hp15_0) (dt hp19_0) (df hp58_0) (df hp58_1) (dt hp80_0) (df hp80_1) (dt hp80_2)
                  · rename_i hp81_0 hp81_1 hp81_2
                    refine hK4 (A.app x4_0 [[D.i x1_1, D.i (A.add (A.add (A.nat (A.len a2)) 2) (A.mul 2 x4_1))]], A.add x4_1 1) _ ?_ ?_ ?_
                    · subst hA; exact (hV.n81 _ _ _ hI0 _ _ hI1 _ _ hI2 _ _ hI4 (dt hp6_0) (dt (nf hp6_1)) (dt hp6_2) (dt (nf hp6_3)) (dt hp6_4) (dt (nf hp6_5)) (df hp15_0) (dt hp19_0) (df hp58_0) (df hp58_1) (dt hp81_0) (df hp81_1) (dt hp81_2)).1
                    · subst hA; exact (hV.n81 _ _ _ hI0 _ _ hI1 _ _ hI2 _ _ hI4 (dt hp6_0) (dt (nf hp6_1)) (dt hp6_2) (dt (nf hp6_3)) (dt hp6_4) (dt (nf hp6_5)) (df hp15_0) (dt hp19_0) (df hp58_0) (df hp58_1) (dt hp81_0) (df hp81_1) (dt hp81_2)).2
                    · clear hE hinl hV hK4; cbv; (try (repeat' (first | exact True.intro | rfl | assumption | apply And.intro)))
                  · rename_i hp82_0 hp82_1 hp82_2
                    subst hA; exact hV.g82 _ _ _ hI0 _ _ hI1 _ _ hI2 _ _ hI4 (dt hp6_0) (dt (nf hp6_1)) (dt hp6_2) (dt (nf hp6_3)) (dt hp6_4) (dt (nf hp6_5)) (df hp15_0) (dt hp19_0) (df hp58_0) (df hp58_1) (dt hp82_0) (df hp82_1) (df hp82_2)
                  · rename_i hp83_0 hp83_1 hp83_2
                    refine hK4 (x4_0, A.add x4_1 1) _ ?_ ?_ ?_
                    · subst hA; exact (hV.n83 _ _ _ hI0 _ _ hI1 _ _ hI2 _ _ hI4 (dt hp6_0) (dt (nf hp6_1)) (dt hp6_2) (dt (nf hp6_3)) (dt hp6_4) (dt (nf hp6_5)) (df hp15_0) (dt hp19_0) (df hp58_0) (df hp58_1) (dt hp83_0) (df hp83_1) (df hp83_2)).1
                    · subst hA; exact (hV.n83 _ _ _ hI0 _ _ hI1 _ _ hI2 _ _ hI4 (dt hp6_0) (dt (nf hp6_1)) (dt hp6_2) (dt (nf hp6_3)) (dt hp6_4) (dt (nf hp6_5)) (df hp15_0) (dt hp19_0) (df hp58_0) (df hp58_1) (dt hp83_0) (df hp83_1) (df hp83_2)).2
                    · clear hE hinl hV hK4; cbv; (try (repeat' (first | exact True.intro | rfl | assumption | apply And.intro)))
                  · rename_i hp84_0
                    subst hA; exact hV.g84 _ _ _ hI0 _ _ hI1 _ _ hI2 _ _ hI4 (dt hp6_0) (dt (nf hp6_1)) (dt hp6_2) (dt (nf hp6_3)) (dt hp6_4) (dt (nf hp6_5)) (df hp15_0) (dt hp19_0) (df hp58_0) (df hp58_1) (df hp84_0)
                  · rename_i hp85_0
                    refine hK1 (x4_0, A.add x1_1 1) _ ?_ ?_ ?_
                    · subst hA; exact (hV.n85 _ _ _ hI0 _ _ hI1 _ _ hI2 _ _ hI4 (dt hp6_0) (dt (nf hp6_1)) (dt hp6_2) (dt (nf hp6_3)) (dt hp6_4) (dt (nf hp6_5)) (df hp15_0) (dt hp19_0) (df hp58_0) (df hp58_1) (df hp85_0)).1
                    · subst hA; exact (hV.n85 _ _ _ hI0 _ _ hI1 _ _ hI2 _ _ hI4 (dt hp6_0) (dt (nf hp6_1)) (dt hp6_2) (dt (nf hp6_3)) (dt hp6_4) (dt (nf hp6_5)) (df hp15_0) (dt hp19_0) (df hp58_0) (df hp58_1) (df hp85_0)).2
                    · clear hE hinl hV hK1; cbv; (try (repeat' (first | exact True.intro | rfl | assumption | apply And.intro)))
          · rename_i hp86_0
            subst hA; exact hV.g86 _ _ _ hI0 _ _ hI1 (dt hp6_0) (dt (nf hp6_1)) (dt hp6_2) (dt (nf hp6_3)) (dt hp6_4) (dt (nf hp6_5)) (df hp15_0) (df hp86_0)
          · rename_i hp87_0
            subst hA; exact hV.g87 _ _ _ hI0 _ _ hI1 (dt hp6_0) (dt (nf hp6_1)) (dt hp6_2) (dt (nf hp6_3)) (dt hp6_4) (dt (nf hp6_5)) (df hp15_0) (df hp87_0)
  · rename_i hp88_0 hp88_1 hp88_2 hp88_3 hp88_4
    subst hA; exact hV.g88 (dt hp88_0) (dt (nf hp88_1)) (dt hp88_2) (dt (nf hp88_3)) (df hp88_4)
  · rename_i hp89_0 hp89_1 hp89_2 hp89_3 hp89_4
    subst hA; exact hV.g89 (dt hp89_0) (dt (nf hp89_1)) (dt hp89_2) (dt (nf hp89_3)) (df hp89_4)
  · rename_i hp90_0 hp90_1 hp90_2
    subst hA; exact hV.g90 (dt hp90_0) (dt (nf hp90_1)) (df hp90_2)
  · rename_i hp91_0 hp91_1 hp91_2
    subst hA; exact hV.g91 (dt hp91_0) (dt (nf hp91_1)) (df hp91_2)
  · rename_i hp92_0
    subst hA; exact hV.g92 (df hp92_0)
  · rename_i hp93_0
    subst hA; exact hV.g93 (df hp93_0)
end HX

namespace HX
open Go Go.Proofs CX
set_option maxHeartbeats 4000000 in
set_option maxRecDepth 100000 in
theorem walk74 {ro A pre fn} (hE : EnvOk ⟨A, (cxE ro), ksF, sigL [], pre, fn⟩) {P : List (List D) → Prop} {res : List (List D) → Nat → Nat → D}
    (hv : ∀ (a0_0 : Int) (a0_1 : Int) (a0_2 : Int) (a0_3 : Int) (a0_4 : Int) (a1 : Rows), ShR [.int .i64] a1 → P [[.i a0_0, .i a0_1, .i a0_2, .i a0_3, .i a0_4], [.l a1]] → ∃ (I0 : Rows → Int → Prop) (m0 : Rows → Int → Nat), V74 a0_0 a0_1 a0_2 a0_3 a0_4 a1 (res [[.i a0_0, .i a0_1, .i a0_2, .i a0_3, .i a0_4], [.l a1]]) I0 m0) :
    PureC (cxE ro) 74 ⟨[(true, [.int .i64, .int .i64, .int .i64, .int .i64, .int .i64]), (false, [.sl [.int .i64]])], [(false, [.sl [.int .i64, .int .i64, .int .i64, .int .i64]])], false⟩ P res := by
  have hA := hE.A
  simp only [] at hA
  have hinl : ∀ f fn, inlL [(75, Tryz.f75)] f = some fn → (cxE ro).fn f = some fn ∧ (cxE ro).ext f = none := Inls.ok (by repeat (first | exact .nil | refine .cons rfl rfl ?_))
  refine PureC.of_vc hE hinl 6 (f := 74) (fn := Tryz.f74) ⟨rfl, rfl⟩ ?_
  intro a0_0 a0_1 a0_2 a0_3 a0_4 a1 ha1 hP
  obtain ⟨R, hR⟩ : ∃ R, res [[.i a0_0, .i a0_1, .i a0_2, .i a0_3, .i a0_4], [.l a1]] = R := ⟨_, rfl⟩
  rw [hR]
  obtain ⟨I0, m0, hV⟩ := hv a0_0 a0_1 a0_2 a0_3 a0_4 a1 ha1 hP
  rw [hR] at hV
  clear hR hP hv
  cbv
  repeat' (first | (refine Br.mk (fun _ => ?_) (fun _ => ?_) <;> cbv) | (refine NilB.mk (fun _ => ?_) ?_ <;> cbv) | refine And.intro ?_ ?_ | exact True.intro)
  · refine Leaf.gen fun σz hσz => ?_
    refine loopB hE hinl 6 [] [] [] (fun x : Rows × Int => [.l x.1, .i x.2]) (fun x => I0 x.1 x.2) (fun x => m0 x.1 x.2) ([], 0) (by subst hA; exact hV.i0) ?_ ?_ <;> subst hσz
    · clear hE hinl hV; cbv; (try (repeat' (first | exact True.intro | rfl | assumption | apply And.intro)))
    · intro ⟨x0_0, x0_1⟩ hI0 K0 hK0
      cbv
      repeat' (first | (refine Br.mk (fun _ => ?_) (fun _ => ?_) <;> cbv) | (refine NilB.mk (fun _ => ?_) ?_ <;> cbv) | refine And.intro ?_ ?_ | exact True.intro)
      · rename_i hp1_0
        subst hA; exact hV.g1 _ _ hI0 (dt hp1_0)
      · rename_i hp2_0
        subst hA; exact hV.g2 _ _ hI0 (dt hp2_0)
      · rename_i hp3_0
        subst hA; exact hV.g3 _ _ hI0 (dt hp3_0)
      · rename_i hp4_0
        subst hA; exact hV.g4 _ _ hI0 (dt hp4_0)
      · rename_i hp5_0
        subst hA; exact hV.g5 _ _ hI0 (dt hp5_0)
      · rename_i hp6_0
        subst hA; exact hV.g6 _ _ hI0 (dt hp6_0)
      · rename_i hp7_0
        refine hK0 (A.app x0_0 [[D.i (A.add a0_3 (A.mul x0_1 a0_4)), D.i a0_2, D.i (A.di (A.get a1 (A.toNat x0_1) 0)), D.i 1]], A.add x0_1 1) _ ?_ ?_ ?_
        · subst hA; exact (hV.n7 _ _ hI0 (dt hp7_0)).1
        · subst hA; exact (hV.n7 _ _ hI0 (dt hp7_0)).2
        · clear hE hinl hV hK0; cbv; (try (repeat' (first | exact True.intro | rfl | assumption | apply And.intro)))
      · rename_i hp8_0
        subst hA; exact hV.g8 _ _ hI0 (df hp8_0)
end HX

namespace HX
open Go Go.Proofs CX
set_option maxHeartbeats 4000000 in
set_option maxRecDepth 100000 in
theorem walk75 {ro A pre fn} (hE : EnvOk ⟨A, (cxE ro), ksF, sigL [], pre, fn⟩) {P : List (List D) → Prop} {res : List (List D) → Nat → Nat → D}
    (hv : ∀ (a0_0 : Int) (a0_1 : Int) (a0_2 : Int) (a0_3 : Int) (a0_4 : Int) (a1 : Int) (a2 : Int), P [[.i a0_0, .i a0_1, .i a0_2, .i a0_3, .i a0_4], [.i a1], [.i a2]] → V75 a0_0 a0_1 a0_2 a0_3 a0_4 a1 a2 (res [[.i a0_0, .i a0_1, .i a0_2, .i a0_3, .i a0_4], [.i a1], [.i a2]]) ) :
    PureC (cxE ro) 75 ⟨[(true, [.int .i64, .int .i64, .int .i64, .int .i64, .int .i64]), (false, [.int .i64]), (false, [.int .i64])], [(true, [.int .i64, .int .i64, .int .i64, .int .i64])], false⟩ P res := by
  have hA := hE.A
  simp only [] at hA
  have hinl : ∀ f fn, inlL [] f = some fn → (cxE ro).fn f = some fn ∧ (cxE ro).ext f = none := Inls.ok (by repeat (first | exact .nil | refine .cons rfl rfl ?_))
  refine PureC.of_vc hE hinl 6 (f := 75) (fn := Tryz.f75) ⟨rfl, rfl⟩ ?_
  intro a0_0 a0_1 a0_2 a0_3 a0_4 a1 a2 hP
  obtain ⟨R, hR⟩ : ∃ R, res [[.i a0_0, .i a0_1, .i a0_2, .i a0_3, .i a0_4], [.i a1], [.i a2]] = R := ⟨_, rfl⟩
  rw [hR]
  have hV := hv a0_0 a0_1 a0_2 a0_3 a0_4 a1 a2  hP
  rw [hR] at hV
  clear hR hP hv
  cbv
  repeat' (first | (refine Br.mk (fun _ => ?_) (fun _ => ?_) <;> cbv) | (refine NilB.mk (fun _ => ?_) ?_ <;> cbv) | refine And.intro ?_ ?_ | exact True.intro)
  · subst hA; exact hV.g0
  · subst hA; exact hV.g1
  · subst hA; exact hV.g2
  · subst hA; exact hV.g3
end HX

namespace HX
open Go Go.Proofs CX
set_option maxHeartbeats 4000000 in
set_option maxRecDepth 100000 in
theorem walk78 {ro A pre fn} (hE : EnvOk ⟨A, (cxE ro), ksF, sigL [(51, ⟨[(false, [.sl [.int .i64, .int .i64, .int .i64]])], [(false, [.bool])], false⟩), (138, ⟨[(false, [.int .i64])], [(false, [.int .i64])], false⟩)], pre, fn⟩) {P : List (List D) → Prop} {res : List (List D) → Nat → Nat → D}
    (hv : ∀ (a0 : Int) (a1 : Rows) (a2 : Int), ShR [.sl [.sl [.int .i64], .int .i64, .int .i64]] a1 → P [[.i a0], [.l a1], [.i a2]] → ∃ (I0 : Int → Int → Int → Prop) (m0 : Int → Int → Int → Nat) (I1 : Int → Int → Int → Int → Int → Prop) (m1 : Int → Int → Int → Int → Int → Nat) (I2 : Int → Int → Int → Int → Int → Int → Int → Int → Prop) (m2 : Int → Int → Int → Int → Int → Int → Int → Int → Nat), V78 pre fn a0 a1 a2 (res [[.i a0], [.l a1], [.i a2]]) I0 m0 I1 m1 I2 m2) :
    PureC (cxE ro) 78 ⟨[(false, [.int .i64]), (false, [.sl [.sl [.sl [.int .i64], .int .i64, .int .i64]]]), (false, [.int .i64])], [(false, [.int .i64])], false⟩ P res := by
  have hA := hE.A
  simp only [] at hA
  have hinl : ∀ f fn, inlL [(108, Tryz.f108), (109, Tryz.f109), (137, Tryz.f137), (84, Tryz.f84)] f = some fn → (cxE ro).fn f = some fn ∧ (cxE ro).ext f = none := Inls.ok (by repeat (first | exact .nil | refine .cons rfl rfl ?_))
  refine PureC.of_vc hE hinl 6 (f := 78) (fn := Tryz.f78) ⟨rfl, rfl⟩ ?_
  intro a0 a1 ha1 a2 hP
  obtain ⟨R, hR⟩ : ∃ R, res [[.i a0], [.l a1], [.i a2]] = R := ⟨_, rfl⟩
  rw [hR]
  obtain ⟨I0, m0, I1, m1, I2, m2, hV⟩ := hv a0 a1 a2 ha1 hP
  rw [hR] at hV
  clear hR hP hv
  cbv
  repeat' (first | (refine Br.mk (fun _ => ?_) (fun _ => ?_) <;> cbv) | (refine NilB.mk (fun _ => ?_) ?_ <;> cbv) | refine And.intro ?_ ?_ | exact True.intro)
  · subst hA; exact hV.g0
  · rename_i hp1_0
    subst hA; exact hV.g1 (nt hp1_0)
  · rename_i hp2_0
    subst hA; exact hV.g2 (nf hp2_0)
  · rename_i hp3_0 hp3_1
    subst hA; exact hV.g3 (nf hp3_0) (nt hp3_1)
  · rename_i hp4_0 hp4_1
    subst hA; exact hV.g4 (nf hp4_0) (nf hp4_1)
  · rename_i hp5_0 hp5_1 hp5_2
    subst hA; exact hV.g5 (nf hp5_0) (nf hp5_1) (nt hp5_2)
  · rename_i hp6_0 hp6_1 hp6_2
    refine Leaf.gen fun σz hσz => ?_
    refine loopB hE hinl 6 [] [] [] (fun x : Int × Int × Int => [.i x.1, .i x.2.1, .i x.2.2]) (fun x => I0 x.1 x.2.1 x.2.2) (fun x => m0 x.1 x.2.1 x.2.2) (0, a0, 0) (by subst hA; exact hV.i0 (nf hp6_0) (nf hp6_1) (nf hp6_2)) ?_ ?_ <;> subst hσz
    · clear hE hinl hV; cbv; (try (repeat' (first | exact True.intro | rfl | assumption | apply And.intro)))
    · intro ⟨x0_0, x0_1, x0_2⟩ hI0 K0 hK0
      cbv
      repeat' (first | (refine Br.mk (fun _ => ?_) (fun _ => ?_) <;> cbv) | (refine NilB.mk (fun _ => ?_) ?_ <;> cbv) | refine And.intro ?_ ?_ | exact True.intro)
      · rename_i hp7_0
        subst hA; exact hV.g7 _ _ _ hI0 (nf hp6_0) (nf hp6_1) (nf hp6_2) (dt hp7_0)
      · rename_i hp8_0
        subst hA; exact hV.g8 _ _ _ hI0 (nf hp6_0) (nf hp6_1) (nf hp6_2) (dt hp8_0)
      · rename_i hp9_0
        subst hA; exact hV.g9 _ _ _ hI0 (nf hp6_0) (nf hp6_1) (nf hp6_2) (dt hp9_0)
      · rename_i hp10_0 hp10_1 hp10_2
        subst hA; exact hV.g10 _ _ _ hI0 (nf hp6_0) (nf hp6_1) (nf hp6_2) (dt hp10_0) (nt hp10_1)
      · rename_i hp11_0 hp11_1 hp11_2
        exfalso; subst hA; simp [Ar.std] at hp11_2
      · rename_i hp12_0 hp12_1 hp12_2
        exfalso; subst hA; simp [Ar.std] at hp12_2
      · rename_i hp13_0 hp13_1
        refine Leaf.gen fun σz hσz => ?_
        refine loopB hE hinl 6 [] [] [] (fun x : Int × Int => [.i x.1, .i x.2]) (fun x => I1 x0_0 x0_1 x0_2 x.1 x.2) (fun x => m1 x0_0 x0_1 x0_2 x.1 x.2) (0, 0) (by subst hA; exact hV.i1 _ _ _ hI0 (nf hp6_0) (nf hp6_1) (nf hp6_2) (dt hp13_0) (nf hp13_1)) ?_ ?_ <;> subst hσz
        · clear hE hinl hV; cbv; (try (repeat' (first | exact True.intro | rfl | assumption | apply And.intro)))
        · intro ⟨x1_0, x1_1⟩ hI1 K1 hK1
          cbv
          repeat' (first | (refine Br.mk (fun _ => ?_) (fun _ => ?_) <;> cbv) | (refine NilB.mk (fun _ => ?_) ?_ <;> cbv) | refine And.intro ?_ ?_ | exact True.intro)
          · rename_i hp14_0
            subst hA; exact hV.g14 _ _ _ hI0 _ _ hI1 (nf hp6_0) (nf hp6_1) (nf hp6_2) (dt hp13_0) (nf hp13_1) (dt hp14_0)
          · rename_i hp15_0
            subst hA; exact hV.g15 _ _ _ hI0 _ _ hI1 (nf hp6_0) (nf hp6_1) (nf hp6_2) (dt hp13_0) (nf hp13_1) (dt hp15_0)
          · rename_i hp16_0 hp16_1 hp16_2
            subst hA; exact hV.g16 _ _ _ hI0 _ _ hI1 (nf hp6_0) (nf hp6_1) (nf hp6_2) (dt hp13_0) (nf hp13_1) (dt hp16_0) (df (nt hp16_1))
          · rename_i hp17_0 hp17_1 hp17_2
            exfalso; subst hA; simp [Ar.std] at hp17_2
          · rename_i hp18_0 hp18_1 hp18_2
            exfalso; subst hA; simp [Ar.std] at hp18_2
          · rename_i hp19_0 hp19_1
            subst hA; exact hV.g19 _ _ _ hI0 _ _ hI1 (nf hp6_0) (nf hp6_1) (nf hp6_2) (dt hp13_0) (nf hp13_1) (dt hp19_0) (dt (nf hp19_1))
          · rename_i hp20_0 hp20_1 hp20_2 hp20_3
            subst hA; exact hV.g20 _ _ _ hI0 _ _ hI1 (nf hp6_0) (nf hp6_1) (nf hp6_2) (dt hp13_0) (nf hp13_1) (dt hp20_0) (dt (nf hp20_1)) (nt hp20_2)
          · rename_i hp21_0 hp21_1 hp21_2 hp21_3
            exfalso; subst hA; simp [Ar.std] at hp21_3
          · rename_i hp22_0 hp22_1 hp22_2 hp22_3
            exfalso; subst hA; simp [Ar.std] at hp22_3
          · rename_i hp23_0 hp23_1 hp23_2
            subst hA; exact hV.g23 _ _ _ hI0 _ _ hI1 (nf hp6_0) (nf hp6_1) (nf hp6_2) (dt hp13_0) (nf hp13_1) (dt hp23_0) (dt (nf hp23_1)) (nf hp23_2)
          · rename_i hp24_0 hp24_1 hp24_2 hp24_3 hp24_4
            subst hA; exact hV.g24 _ _ _ hI0 _ _ hI1 (nf hp6_0) (nf hp6_1) (nf hp6_2) (dt hp13_0) (nf hp13_1) (dt hp24_0) (dt (nf hp24_1)) (nf hp24_2) (nt hp24_3)
          · rename_i hp25_0 hp25_1 hp25_2 hp25_3 hp25_4
            exfalso; subst hA; simp [Ar.std] at hp25_4
          · rename_i hp26_0 hp26_1 hp26_2 hp26_3 hp26_4
            exfalso; subst hA; simp [Ar.std] at hp26_4
          · rename_i hp27_0 hp27_1 hp27_2 hp27_3
            subst hA; exact hV.g27 _ _ _ hI0 _ _ hI1 (nf hp6_0) (nf hp6_1) (nf hp6_2) (dt hp13_0) (nf hp13_1) (dt hp27_0) (dt (nf hp27_1)) (nf hp27_2) (nf hp27_3)
          · rename_i hp28_0 hp28_1 hp28_2 hp28_3
            refine Leaf.gen fun σz hσz => ?_
            refine loopB hE hinl 6 [] [] [] (fun x : Int × Int × Int => [.i x.1, .i x.2.1, .i x.2.2]) (fun x => I2 x0_0 x0_1 x0_2 x1_0 x1_1 x.1 x.2.1 x.2.2) (fun x => m2 x0_0 x0_1 x0_2 x1_0 x1_1 x.1 x.2.1 x.2.2) (x1_0, A.di (fn 138 [[D.i (A.di (A.get (A.dl (A.get a1 (A.toNat x0_2) 0)) (A.toNat x1_1) 1))]] 0 0), 0) (by subst hA; exact hV.i2 _ _ _ hI0 _ _ hI1 (nf hp6_0) (nf hp6_1) (nf hp6_2) (dt hp13_0) (nf hp13_1) (dt hp28_0) (dt (nf hp28_1)) (nf hp28_2) (nf hp28_3)) ?_ ?_ <;> subst hσz
            · clear hE hinl hV; cbv; (try (repeat' (first | exact True.intro | rfl | assumption | apply And.intro)))
            · intro ⟨x2_0, x2_1, x2_2⟩ hI2 K2 hK2
              cbv
              repeat' (first | (refine Br.mk (fun _ => ?_) (fun _ => ?_) <;> cbv) | (refine NilB.mk (fun _ => ?_) ?_ <;> cbv) | refine And.intro ?_ ?_ | exact True.intro)
              · rename_i hp29_0
                subst hA; exact hV.g29 _ _ _ hI0 _ _ hI1 _ _ _ hI2 (nf hp6_0) (nf hp6_1) (nf hp6_2) (dt hp13_0) (nf hp13_1) (dt hp28_0) (dt (nf hp28_1)) (nf hp28_2) (nf hp28_3) (dt hp29_0)
              · rename_i hp30_0
                subst hA; exact hV.g30 _ _ _ hI0 _ _ hI1 _ _ _ hI2 (nf hp6_0) (nf hp6_1) (nf hp6_2) (dt hp13_0) (nf hp13_1) (dt hp28_0) (dt (nf hp28_1)) (nf hp28_2) (nf hp28_3) (dt hp30_0)
              · rename_i hp31_0
                subst hA; exact hV.g31 _ _ _ hI0 _ _ hI1 _ _ _ hI2 (nf hp6_0) (nf hp6_1) (nf hp6_2) (dt hp13_0) (nf hp13_1) (dt hp28_0) (dt (nf hp28_1)) (nf hp28_2) (nf hp28_3) (dt hp31_0)
              · rename_i hp32_0 hp32_1 hp32_2
                subst hA; exact hV.g32 _ _ _ hI0 _ _ hI1 _ _ _ hI2 (nf hp6_0) (nf hp6_1) (nf hp6_2) (dt hp13_0) (nf hp13_1) (dt hp28_0) (dt (nf hp28_1)) (nf hp28_2) (nf hp28_3) (dt hp32_0) (nt hp32_1)
              · rename_i hp33_0 hp33_1 hp33_2
                exfalso; subst hA; simp [Ar.std] at hp33_2
              · rename_i hp34_0 hp34_1 hp34_2
                exfalso; subst hA; simp [Ar.std] at hp34_2
              · rename_i hp35_0 hp35_1
                subst hA; exact hV.g35 _ _ _ hI0 _ _ hI1 _ _ _ hI2 (nf hp6_0) (nf hp6_1) (nf hp6_2) (dt hp13_0) (nf hp13_1) (dt hp28_0) (dt (nf hp28_1)) (nf hp28_2) (nf hp28_3) (dt hp35_0) (nf hp35_1)
              · rename_i hp36_0 hp36_1
                subst hA; exact hV.g36 _ _ _ hI0 _ _ hI1 _ _ _ hI2 (nf hp6_0) (nf hp6_1) (nf hp6_2) (dt hp13_0) (nf hp13_1) (dt hp28_0) (dt (nf hp28_1)) (nf hp28_2) (nf hp28_3) (dt hp36_0) (nf hp36_1)
              · rename_i hp37_0 hp37_1
                subst hA; exact hV.g37 _ _ _ hI0 _ _ hI1 _ _ _ hI2 (nf hp6_0) (nf hp6_1) (nf hp6_2) (dt hp13_0) (nf hp13_1) (dt hp28_0) (dt (nf hp28_1)) (nf hp28_2) (nf hp28_3) (dt hp37_0) (nf hp37_1)
              · rename_i hp38_0 hp38_1
                subst hA; exact hV.g38 _ _ _ hI0 _ _ hI1 _ _ _ hI2 (nf hp6_0) (nf hp6_1) (nf hp6_2) (dt hp13_0) (nf hp13_1) (dt hp28_0) (dt (nf hp28_1)) (nf hp28_2) (nf hp28_3) (dt hp38_0) (nf hp38_1)
              · rename_i hp39_0 hp39_1
                refine hK2 (x2_0, A.add x2_1 (A.mul a2 (A.di (fn 138 [[D.i (A.di (A.get (A.dl (A.get (A.dl (A.get a1 (A.toNat x0_2) 0)) (A.toNat x1_1) 0)) (A.toNat x2_2) 0))]] 0 0))), A.add x2_2 1) _ ?_ ?_ ?_
                · subst hA; exact (hV.n39 _ _ _ hI0 _ _ hI1 _ _ _ hI2 (nf hp6_0) (nf hp6_1) (nf hp6_2) (dt hp13_0) (nf hp13_1) (dt hp28_0) (dt (nf hp28_1)) (nf hp28_2) (nf hp28_3) (dt hp39_0) (nf hp39_1)).1
                · subst hA; exact (hV.n39 _ _ _ hI0 _ _ hI1 _ _ _ hI2 (nf hp6_0) (nf hp6_1) (nf hp6_2) (dt hp13_0) (nf hp13_1) (dt hp28_0) (dt (nf hp28_1)) (nf hp28_2) (nf hp28_3) (dt hp39_0) (nf hp39_1)).2
                · clear hE hinl hV hK2; cbv; (try (repeat' (first | exact True.intro | rfl | assumption | apply And.intro)))
              · rename_i hp40_0 hp40_1 hp40_2
                subst hA; exact hV.g40 _ _ _ hI0 _ _ hI1 _ _ _ hI2 (nf hp6_0) (nf hp6_1) (nf hp6_2) (dt hp13_0) (nf hp13_1) (dt hp28_0) (dt (nf hp28_1)) (nf hp28_2) (nf hp28_3) (df hp40_0) (dt hp40_1)
              · rename_i hp41_0 hp41_1 hp41_2
                exfalso; subst hA; simp [Ar.std] at hp41_2
              · rename_i hp42_0 hp42_1 hp42_2
                exfalso; subst hA; simp [Ar.std] at hp42_2
              · rename_i hp43_0 hp43_1
                subst hA; exact hV.g43 _ _ _ hI0 _ _ hI1 _ _ _ hI2 (nf hp6_0) (nf hp6_1) (nf hp6_2) (dt hp13_0) (nf hp13_1) (dt hp28_0) (dt (nf hp28_1)) (nf hp28_2) (nf hp28_3) (df hp43_0) (df hp43_1)
              · rename_i hp44_0 hp44_1
                refine hK1 (x2_0, A.add x1_1 1) _ ?_ ?_ ?_
                · subst hA; exact (hV.n44 _ _ _ hI0 _ _ hI1 _ _ _ hI2 (nf hp6_0) (nf hp6_1) (nf hp6_2) (dt hp13_0) (nf hp13_1) (dt hp28_0) (dt (nf hp28_1)) (nf hp28_2) (nf hp28_3) (df hp44_0) (df hp44_1)).1
                · subst hA; exact (hV.n44 _ _ _ hI0 _ _ hI1 _ _ _ hI2 (nf hp6_0) (nf hp6_1) (nf hp6_2) (dt hp13_0) (nf hp13_1) (dt hp28_0) (dt (nf hp28_1)) (nf hp28_2) (nf hp28_3) (df hp44_0) (df hp44_1)).2
                · clear hE hinl hV hK1; cbv; (try (repeat' (first | exact True.intro | rfl | assumption | apply And.intro)))
          · rename_i hp45_0 hp45_1
            exfalso; subst hA; simp [Ar.std] at hp45_1
          · rename_i hp46_0 hp46_1
            subst hA; exact hV.g46 _ _ _ hI0 _ _ hI1 (nf hp6_0) (nf hp6_1) (nf hp6_2) (dt hp13_0) (nf hp13_1) (df hp46_0)
          · rename_i hp47_0 hp47_1
            refine hK0 (x0_0, A.nat (A.len (A.dl (A.get a1 (A.toNat x0_2) 0))), A.add x0_2 1) _ ?_ ?_ ?_
            · subst hA; exact (hV.n47 _ _ _ hI0 _ _ hI1 (nf hp6_0) (nf hp6_1) (nf hp6_2) (dt hp13_0) (nf hp13_1) (df hp47_0)).1
            · subst hA; exact (hV.n47 _ _ _ hI0 _ _ hI1 (nf hp6_0) (nf hp6_1) (nf hp6_2) (dt hp13_0) (nf hp13_1) (df hp47_0)).2
            · clear hE hinl hV hK0; cbv; (try (repeat' (first | exact True.intro | rfl | assumption | apply And.intro)))
      · rename_i hp48_0
        subst hA; exact hV.g48 _ _ _ hI0 (nf hp6_0) (nf hp6_1) (nf hp6_2) (df hp48_0)
end HX

namespace HX
open Go Go.Proofs CX
set_option maxHeartbeats 4000000 in
set_option maxRecDepth 100000 in
theorem walk79 {ro A pre fn} (hE : EnvOk ⟨A, (cxE ro), ksF, sigL [(51, ⟨[(false, [.sl [.int .i64, .int .i64, .int .i64]])], [(false, [.bool])], false⟩)], pre, fn⟩) {P : List (List D) → Prop} {res : List (List D) → Nat → Nat → D}
    (hv : ∀ (a0 : Rows) (a1 : Int), ShR [.int .i64] a0 → P [[.l a0], [.i a1]] → ∃ (I0 : Int → Int → Prop) (m0 : Int → Int → Nat), V79 pre fn a0 a1 (res [[.l a0], [.i a1]]) I0 m0) :
    PureC (cxE ro) 79 ⟨[(false, [.sl [.int .i64]]), (false, [.int .i64])], [(false, [.bool])], false⟩ P res := by
  have hA := hE.A
  simp only [] at hA
  have hinl : ∀ f fn, inlL [(110, Tryz.f110), (139, Tryz.f139), (111, Tryz.f111)] f = some fn → (cxE ro).fn f = some fn ∧ (cxE ro).ext f = none := Inls.ok (by repeat (first | exact .nil | refine .cons rfl rfl ?_))
  refine PureC.of_vc hE hinl 6 (f := 79) (fn := Tryz.f79) ⟨rfl, rfl⟩ ?_
  intro a0 ha0 a1 hP
  obtain ⟨R, hR⟩ : ∃ R, res [[.l a0], [.i a1]] = R := ⟨_, rfl⟩
  rw [hR]
  obtain ⟨I0, m0, hV⟩ := hv a0 a1 ha0 hP
  rw [hR] at hV
  clear hR hP hv
  cbv
  repeat' (first | (refine Br.mk (fun _ => ?_) (fun _ => ?_) <;> cbv) | (refine NilB.mk (fun _ => ?_) ?_ <;> cbv) | refine And.intro ?_ ?_ | exact True.intro)
  · refine Leaf.gen fun σz hσz => ?_
    refine loopB hE hinl 6 [] [] [] (fun x : Int × Int => [.i x.1, .i x.2]) (fun x => I0 x.1 x.2) (fun x => m0 x.1 x.2) (0, 0) (by subst hA; exact hV.i0) ?_ ?_ <;> subst hσz
    · clear hE hinl hV; cbv; (try (repeat' (first | exact True.intro | rfl | assumption | apply And.intro)))
    · intro ⟨x0_0, x0_1⟩ hI0 K0 hK0
      cbv
      repeat' (first | (refine Br.mk (fun _ => ?_) (fun _ => ?_) <;> cbv) | (refine NilB.mk (fun _ => ?_) ?_ <;> cbv) | refine And.intro ?_ ?_ | exact True.intro)
      · rename_i hp1_0
        subst hA; exact hV.g1 _ _ hI0 (dt hp1_0)
      · rename_i hp2_0
        subst hA; exact hV.g2 _ _ hI0 (dt hp2_0)
      · rename_i hp3_0
        subst hA; exact hV.g3 _ _ hI0 (dt hp3_0)
      · rename_i hp4_0 hp4_1
        subst hA; exact hV.g4 _ _ hI0 (dt hp4_0) (nt hp4_1)
      · rename_i hp5_0 hp5_1
        subst hA; exact hV.g5 _ _ hI0 (dt hp5_0) (nf hp5_1)
      · rename_i hp6_0 hp6_1
        refine hK0 (x0_0, A.add x0_1 1) _ ?_ ?_ ?_
        · subst hA; exact (hV.n6 _ _ hI0 (dt hp6_0) (nf hp6_1)).1
        · subst hA; exact (hV.n6 _ _ hI0 (dt hp6_0) (nf hp6_1)).2
        · clear hE hinl hV hK0; cbv; (try (repeat' (first | exact True.intro | rfl | assumption | apply And.intro)))
      · rename_i hp7_0
        subst hA; exact hV.g7 _ _ hI0 (df hp7_0)
end HX

namespace HX
open Go Go.Proofs CX
set_option maxHeartbeats 4000000 in
set_option maxRecDepth 100000 in
theorem walk80 {ro A pre fn} (hE : EnvOk ⟨A, (cxE ro), ksF, sigL [], pre, fn⟩) {P : List (List D) → Prop} {res : List (List D) → Nat → Nat → D}
    (hv : ∀ (a0 : Rows) (a1 : Rows), ShR [.int .i64] a0 → ShR [.int .i64] a1 → P [[.l a0], [.l a1], [.nil]] → ∃ (I0 : Int → Int → Prop) (m0 : Int → Int → Nat), V80 a0 a1 (res [[.l a0], [.l a1], [.nil]]) I0 m0) :
    PureC (cxE ro) 80 ⟨[(false, [.sl [.int .i64]]), (false, [.sl [.int .i64]]), (false, [.fnc 81])], [(false, [.int .i64])], false⟩ P res := by
  have hA := hE.A
  simp only [] at hA
  have hinl : ∀ f fn, inlL [(81, Tryz.f81)] f = some fn → (cxE ro).fn f = some fn ∧ (cxE ro).ext f = none := Inls.ok (by repeat (first | exact .nil | refine .cons rfl rfl ?_))
  refine PureC.of_vc hE hinl 6 (f := 80) (fn := Tryz.f80) ⟨rfl, rfl⟩ ?_
  intro a0 ha0 a1 ha1 hP
  obtain ⟨R, hR⟩ : ∃ R, res [[.l a0], [.l a1], [.nil]] = R := ⟨_, rfl⟩
  rw [hR]
  obtain ⟨I0, m0, hV⟩ := hv a0 a1 ha0 ha1 hP
  rw [hR] at hV
  clear hR hP hv
  cbv
  repeat' (first | (refine Br.mk (fun _ => ?_) (fun _ => ?_) <;> cbv) | (refine NilB.mk (fun _ => ?_) ?_ <;> cbv) | refine And.intro ?_ ?_ | exact True.intro)
  · refine Leaf.gen fun σz hσz => ?_
    refine loopB hE hinl 6 [] [] [] (fun x : Int × Int => [.i x.1, .i x.2]) (fun x => I0 x.1 x.2) (fun x => m0 x.1 x.2) (0, 0) (by subst hA; exact hV.i0) ?_ ?_ <;> subst hσz
    · clear hE hinl hV; cbv; (try (repeat' (first | exact True.intro | rfl | assumption | apply And.intro)))
    · intro ⟨x0_0, x0_1⟩ hI0 K0 hK0
      cbv
      repeat' (first | (refine Br.mk (fun _ => ?_) (fun _ => ?_) <;> cbv) | (refine NilB.mk (fun _ => ?_) ?_ <;> cbv) | refine And.intro ?_ ?_ | exact True.intro)
      · rename_i hp1_0
        subst hA; exact hV.g1 _ _ hI0 (dt hp1_0)
      · rename_i hp2_0
        subst hA; exact hV.g2 _ _ hI0 (dt hp2_0)
      · rename_i hp3_0
        subst hA; exact hV.g1 _ _ hI0 (dt hp3_0)
      · rename_i hp4_0
        subst hA; exact hV.g4 _ _ hI0 (dt hp4_0)
      · rename_i hp5_0
        subst hA; exact hV.g5 _ _ hI0 (dt hp5_0)
      · rename_i hp6_0
        subst hA; exact hV.g6 _ _ hI0 (dt hp6_0)
      · rename_i hp7_0
        subst hA; exact hV.g7 _ _ hI0 (dt hp7_0)
      · rename_i hp8_0
        refine hK0 (A.add x0_0 (A.mul (A.di (A.get a0 (A.toNat x0_1) 0)) (A.di (A.get a1 (A.toNat x0_1) 0))), A.add x0_1 1) _ ?_ ?_ ?_
        · subst hA; exact (hV.n8 _ _ hI0 (dt hp8_0)).1
        · subst hA; exact (hV.n8 _ _ hI0 (dt hp8_0)).2
        · clear hE hinl hV hK0; cbv; (try (repeat' (first | exact True.intro | rfl | assumption | apply And.intro)))
      · rename_i hp9_0
        subst hA; exact hV.g9 _ _ hI0 (df hp9_0)
end HX

namespace HX
open Go Go.Proofs CX
set_option maxHeartbeats 4000000 in
set_option maxRecDepth 100000 in
theorem walk82 {ro A pre fn} (hE : EnvOk ⟨A, (cxE ro), ksF, sigL [], pre, fn⟩) {P : List (List D) → Prop} {res : List (List D) → Nat → Nat → D}
    (hv : ∀ (a0 : Int) (a1 : Rows) (a2 : Int), ShR [.sl [.sl [.int .i64], .int .i64, .int .i64]] a1 → P [[.i a0], [.l a1], [.i a2]] → ∃ (I0 : Int → Int → Int → Prop) (m0 : Int → Int → Int → Nat) (I1 : Int → Int → Int → Int → Int → Prop) (m1 : Int → Int → Int → Int → Int → Nat) (I2 : Int → Int → Int → Int → Int → Int → Int → Int → Prop) (m2 : Int → Int → Int → Int → Int → Int → Int → Int → Nat), V82 a0 a1 a2 (res [[.i a0], [.l a1], [.i a2]]) I0 m0 I1 m1 I2 m2) :
    PureC (cxE ro) 82 ⟨[(false, [.int .i64]), (false, [.sl [.sl [.sl [.int .i64], .int .i64, .int .i64]]]), (false, [.int .i64])], [(false, [.int .i64])], false⟩ P res := by
  have hA := hE.A
  simp only [] at hA
  have hinl : ∀ f fn, inlL [(52, Tryz.f52)] f = some fn → (cxE ro).fn f = some fn ∧ (cxE ro).ext f = none := Inls.ok (by repeat (first | exact .nil | refine .cons rfl rfl ?_))
  refine PureC.of_vc hE hinl 6 (f := 82) (fn := Tryz.f82) ⟨rfl, rfl⟩ ?_
  intro a0 a1 ha1 a2 hP
  obtain ⟨R, hR⟩ : ∃ R, res [[.i a0], [.l a1], [.i a2]] = R := ⟨_, rfl⟩
  rw [hR]
  obtain ⟨I0, m0, I1, m1, I2, m2, hV⟩ := hv a0 a1 a2 ha1 hP
  rw [hR] at hV
  clear hR hP hv
  cbv
  repeat' (first | (refine Br.mk (fun _ => ?_) (fun _ => ?_) <;> cbv) | (refine NilB.mk (fun _ => ?_) ?_ <;> cbv) | refine And.intro ?_ ?_ | exact True.intro)
  · rename_i hp0_0 hp0_1
    subst hA; exact hV.g0 (dt hp0_0) (df (nt hp0_1))
  · rename_i hp1_0 hp1_1 hp1_2 hp1_3
    subst hA; exact hV.g1 (dt hp1_0) (dt (nf hp1_1)) (dt hp1_2) (df (nt hp1_3))
  · rename_i hp2_0 hp2_1 hp2_2 hp2_3 hp2_4 hp2_5
    subst hA; exact hV.g2 (dt hp2_0) (dt (nf hp2_1)) (dt hp2_2) (dt (nf hp2_3)) (dt hp2_4) (df (nt hp2_5))
  · rename_i hp3_0 hp3_1 hp3_2 hp3_3 hp3_4 hp3_5
    refine Leaf.gen fun σz hσz => ?_
    refine loopB hE hinl 6 [] [] [] (fun x : Int × Int × Int => [.i x.1, .i x.2.1, .i x.2.2]) (fun x => I0 x.1 x.2.1 x.2.2) (fun x => m0 x.1 x.2.1 x.2.2) (0, a0, 0) (by subst hA; exact hV.i0 (dt hp3_0) (dt (nf hp3_1)) (dt hp3_2) (dt (nf hp3_3)) (dt hp3_4) (dt (nf hp3_5))) ?_ ?_ <;> subst hσz
    · clear hE hinl hV; cbv; (try (repeat' (first | exact True.intro | rfl | assumption | apply And.intro)))
    · intro ⟨x0_0, x0_1, x0_2⟩ hI0 K0 hK0
      cbv
      repeat' (first | (refine Br.mk (fun _ => ?_) (fun _ => ?_) <;> cbv) | (refine NilB.mk (fun _ => ?_) ?_ <;> cbv) | refine And.intro ?_ ?_ | exact True.intro)
      · rename_i hp4_0
        subst hA; exact hV.g4 _ _ _ hI0 (dt hp3_0) (dt (nf hp3_1)) (dt hp3_2) (dt (nf hp3_3)) (dt hp3_4) (dt (nf hp3_5)) (dt hp4_0)
      · rename_i hp5_0
        subst hA; exact hV.g5 _ _ _ hI0 (dt hp3_0) (dt (nf hp3_1)) (dt hp3_2) (dt (nf hp3_3)) (dt hp3_4) (dt (nf hp3_5)) (dt hp5_0)
      · rename_i hp6_0 hp6_1 hp6_2
        subst hA; exact hV.g6 _ _ _ hI0 (dt hp3_0) (dt (nf hp3_1)) (dt hp3_2) (dt (nf hp3_3)) (dt hp3_4) (dt (nf hp3_5)) (dt hp6_0) (dt hp6_1) (df (nt hp6_2))
      · rename_i hp7_0 hp7_1 hp7_2
        refine Leaf.gen fun σz hσz => ?_
        refine loopB hE hinl 6 [] [] [] (fun x : Int × Int => [.i x.1, .i x.2]) (fun x => I1 x0_0 x0_1 x0_2 x.1 x.2) (fun x => m1 x0_0 x0_1 x0_2 x.1 x.2) (x0_0, 0) (by subst hA; exact hV.i1 _ _ _ hI0 (dt hp3_0) (dt (nf hp3_1)) (dt hp3_2) (dt (nf hp3_3)) (dt hp3_4) (dt (nf hp3_5)) (dt hp7_0) (dt hp7_1) (dt (nf hp7_2))) ?_ ?_ <;> subst hσz
        · clear hE hinl hV; cbv; (try (repeat' (first | exact True.intro | rfl | assumption | apply And.intro)))
        · intro ⟨x1_0, x1_1⟩ hI1 K1 hK1
          cbv
          repeat' (first | (refine Br.mk (fun _ => ?_) (fun _ => ?_) <;> cbv) | (refine NilB.mk (fun _ => ?_) ?_ <;> cbv) | refine And.intro ?_ ?_ | exact True.intro)
          · subst hA; exact hV.g8 _ _ _ hI0 _ _ hI1 (dt hp3_0) (dt (nf hp3_1)) (dt hp3_2) (dt (nf hp3_3)) (dt hp3_4) (dt (nf hp3_5)) (dt hp7_0) (dt hp7_1) (dt (nf hp7_2))
          · subst hA; exact hV.g9 _ _ _ hI0 _ _ hI1 (dt hp3_0) (dt (nf hp3_1)) (dt hp3_2) (dt (nf hp3_3)) (dt hp3_4) (dt (nf hp3_5)) (dt hp7_0) (dt hp7_1) (dt (nf hp7_2))
          · rename_i hp10_0
            subst hA; exact hV.g10 _ _ _ hI0 _ _ hI1 (dt hp3_0) (dt (nf hp3_1)) (dt hp3_2) (dt (nf hp3_3)) (dt hp3_4) (dt (nf hp3_5)) (dt hp7_0) (dt hp7_1) (dt (nf hp7_2)) (dt hp10_0)
          · rename_i hp11_0
            subst hA; exact hV.g11 _ _ _ hI0 _ _ hI1 (dt hp3_0) (dt (nf hp3_1)) (dt hp3_2) (dt (nf hp3_3)) (dt hp3_4) (dt (nf hp3_5)) (dt hp7_0) (dt hp7_1) (dt (nf hp7_2)) (dt hp11_0)
          · rename_i hp12_0
            subst hA; exact hV.g12 _ _ _ hI0 _ _ hI1 (dt hp3_0) (dt (nf hp3_1)) (dt hp3_2) (dt (nf hp3_3)) (dt hp3_4) (dt (nf hp3_5)) (dt hp7_0) (dt hp7_1) (dt (nf hp7_2)) (dt hp12_0)
          · rename_i hp13_0
            subst hA; exact hV.g13 _ _ _ hI0 _ _ hI1 (dt hp3_0) (dt (nf hp3_1)) (dt hp3_2) (dt (nf hp3_3)) (dt hp3_4) (dt (nf hp3_5)) (dt hp7_0) (dt hp7_1) (dt (nf hp7_2)) (dt hp13_0)
          · rename_i hp14_0 hp14_1
            subst hA; exact hV.g14 _ _ _ hI0 _ _ hI1 (dt hp3_0) (dt (nf hp3_1)) (dt hp3_2) (dt (nf hp3_3)) (dt hp3_4) (dt (nf hp3_5)) (dt hp7_0) (dt hp7_1) (dt (nf hp7_2)) (dt hp14_0) (df (nt hp14_1))
          · rename_i hp15_0 hp15_1 hp15_2 hp15_3
            subst hA; exact hV.g15 _ _ _ hI0 _ _ hI1 (dt hp3_0) (dt (nf hp3_1)) (dt hp3_2) (dt (nf hp3_3)) (dt hp3_4) (dt (nf hp3_5)) (dt hp7_0) (dt hp7_1) (dt (nf hp7_2)) (dt hp15_0) (dt (nf hp15_1)) (dt hp15_2) (df (nt hp15_3))
          · rename_i hp16_0 hp16_1 hp16_2 hp16_3 hp16_4 hp16_5
            subst hA; exact hV.g16 _ _ _ hI0 _ _ hI1 (dt hp3_0) (dt (nf hp3_1)) (dt hp3_2) (dt (nf hp3_3)) (dt hp3_4) (dt (nf hp3_5)) (dt hp7_0) (dt hp7_1) (dt (nf hp7_2)) (dt hp16_0) (dt (nf hp16_1)) (dt hp16_2) (dt (nf hp16_3)) (dt hp16_4) (df (nt hp16_5))
          · rename_i hp17_0 hp17_1 hp17_2 hp17_3 hp17_4 hp17_5
            subst hA; exact hV.g17 _ _ _ hI0 _ _ hI1 (dt hp3_0) (dt (nf hp3_1)) (dt hp3_2) (dt (nf hp3_3)) (dt hp3_4) (dt (nf hp3_5)) (dt hp7_0) (dt hp7_1) (dt (nf hp7_2)) (dt hp17_0) (dt (nf hp17_1)) (dt hp17_2) (dt (nf hp17_3)) (dt hp17_4) (dt (nf hp17_5))
          · rename_i hp18_0 hp18_1 hp18_2 hp18_3 hp18_4 hp18_5
            refine Leaf.gen fun σz hσz => ?_
            refine loopB hE hinl 6 [] [] [] (fun x : Int × Int × Int => [.i x.1, .i x.2.1, .i x.2.2]) (fun x => I2 x0_0 x0_1 x0_2 x1_0 x1_1 x.1 x.2.1 x.2.2) (fun x => m2 x0_0 x0_1 x0_2 x1_0 x1_1 x.1 x.2.1 x.2.2) (x1_0, A.max (A.di (A.get (A.dl (A.get a1 (A.toNat x0_2) 0)) (A.toNat x1_1) 1)) (A.sub 0 (A.di (A.get (A.dl (A.get a1 (A.toNat x0_2) 0)) (A.toNat x1_1) 1))), 0) (by subst hA; exact hV.i2 _ _ _ hI0 _ _ hI1 (dt hp3_0) (dt (nf hp3_1)) (dt hp3_2) (dt (nf hp3_3)) (dt hp3_4) (dt (nf hp3_5)) (dt hp7_0) (dt hp7_1) (dt (nf hp7_2)) (dt hp18_0) (dt (nf hp18_1)) (dt hp18_2) (dt (nf hp18_3)) (dt hp18_4) (dt (nf hp18_5))) ?_ ?_ <;> subst hσz
            · clear hE hinl hV; cbv; (try (repeat' (first | exact True.intro | rfl | assumption | apply And.intro)))
            · intro ⟨x2_0, x2_1, x2_2⟩ hI2 K2 hK2
              cbv
              repeat' (first | (refine Br.mk (fun _ => ?_) (fun _ => ?_) <;> cbv) | (refine NilB.mk (fun _ => ?_) ?_ <;> cbv) | refine And.intro ?_ ?_ | exact True.intro)
              · rename_i hp19_0
                subst hA; exact hV.g19 _ _ _ hI0 _ _ hI1 _ _ _ hI2 (dt hp3_0) (dt (nf hp3_1)) (dt hp3_2) (dt (nf hp3_3)) (dt hp3_4) (dt (nf hp3_5)) (dt hp7_0) (dt hp7_1) (dt (nf hp7_2)) (dt hp18_0) (dt (nf hp18_1)) (dt hp18_2) (dt (nf hp18_3)) (dt hp18_4) (dt (nf hp18_5)) (dt hp19_0)
              · rename_i hp20_0
                subst hA; exact hV.g20 _ _ _ hI0 _ _ hI1 _ _ _ hI2 (dt hp3_0) (dt (nf hp3_1)) (dt hp3_2) (dt (nf hp3_3)) (dt hp3_4) (dt (nf hp3_5)) (dt hp7_0) (dt hp7_1) (dt (nf hp7_2)) (dt hp18_0) (dt (nf hp18_1)) (dt hp18_2) (dt (nf hp18_3)) (dt hp18_4) (dt (nf hp18_5)) (dt hp20_0)
              · rename_i hp21_0 hp21_1 hp21_2
                subst hA; exact hV.g21 _ _ _ hI0 _ _ hI1 _ _ _ hI2 (dt hp3_0) (dt (nf hp3_1)) (dt hp3_2) (dt (nf hp3_3)) (dt hp3_4) (dt (nf hp3_5)) (dt hp7_0) (dt hp7_1) (dt (nf hp7_2)) (dt hp18_0) (dt (nf hp18_1)) (dt hp18_2) (dt (nf hp18_3)) (dt hp18_4) (dt (nf hp18_5)) (dt hp21_0) (dt hp21_1) (df (nt hp21_2))
              · rename_i hp22_0 hp22_1 hp22_2
                subst hA; exact hV.g22 _ _ _ hI0 _ _ hI1 _ _ _ hI2 (dt hp3_0) (dt (nf hp3_1)) (dt hp3_2) (dt (nf hp3_3)) (dt hp3_4) (dt (nf hp3_5)) (dt hp7_0) (dt hp7_1) (dt (nf hp7_2)) (dt hp18_0) (dt (nf hp18_1)) (dt hp18_2) (dt (nf hp18_3)) (dt hp18_4) (dt (nf hp18_5)) (dt hp22_0) (dt hp22_1) (dt (nf hp22_2))
              · rename_i hp23_0 hp23_1 hp23_2
                subst hA; exact hV.g23 _ _ _ hI0 _ _ hI1 _ _ _ hI2 (dt hp3_0) (dt (nf hp3_1)) (dt hp3_2) (dt (nf hp3_3)) (dt hp3_4) (dt (nf hp3_5)) (dt hp7_0) (dt hp7_1) (dt (nf hp7_2)) (dt hp18_0) (dt (nf hp18_1)) (dt hp18_2) (dt (nf hp18_3)) (dt hp18_4) (dt (nf hp18_5)) (dt hp23_0) (dt hp23_1) (dt (nf hp23_2))
              · rename_i hp24_0 hp24_1 hp24_2
                subst hA; exact hV.g22 _ _ _ hI0 _ _ hI1 _ _ _ hI2 (dt hp3_0) (dt (nf hp3_1)) (dt hp3_2) (dt (nf hp3_3)) (dt hp3_4) (dt (nf hp3_5)) (dt hp7_0) (dt hp7_1) (dt (nf hp7_2)) (dt hp18_0) (dt (nf hp18_1)) (dt hp18_2) (dt (nf hp18_3)) (dt hp18_4) (dt (nf hp18_5)) (dt hp24_0) (dt hp24_1) (dt (nf hp24_2))
              · rename_i hp25_0 hp25_1 hp25_2
                subst hA; exact hV.g23 _ _ _ hI0 _ _ hI1 _ _ _ hI2 (dt hp3_0) (dt (nf hp3_1)) (dt hp3_2) (dt (nf hp3_3)) (dt hp3_4) (dt (nf hp3_5)) (dt hp7_0) (dt hp7_1) (dt (nf hp7_2)) (dt hp18_0) (dt (nf hp18_1)) (dt hp18_2) (dt (nf hp18_3)) (dt hp18_4) (dt (nf hp18_5)) (dt hp25_0) (dt hp25_1) (dt (nf hp25_2))
              · rename_i hp26_0 hp26_1 hp26_2
                subst hA; exact hV.g26 _ _ _ hI0 _ _ hI1 _ _ _ hI2 (dt hp3_0) (dt (nf hp3_1)) (dt hp3_2) (dt (nf hp3_3)) (dt hp3_4) (dt (nf hp3_5)) (dt hp7_0) (dt hp7_1) (dt (nf hp7_2)) (dt hp18_0) (dt (nf hp18_1)) (dt hp18_2) (dt (nf hp18_3)) (dt hp18_4) (dt (nf hp18_5)) (dt hp26_0) (dt hp26_1) (dt (nf hp26_2))
              · rename_i hp27_0 hp27_1 hp27_2
                subst hA; exact hV.g27 _ _ _ hI0 _ _ hI1 _ _ _ hI2 (dt hp3_0) (dt (nf hp3_1)) (dt hp3_2) (dt (nf hp3_3)) (dt hp3_4) (dt (nf hp3_5)) (dt hp7_0) (dt hp7_1) (dt (nf hp7_2)) (dt hp18_0) (dt (nf hp18_1)) (dt hp18_2) (dt (nf hp18_3)) (dt hp18_4) (dt (nf hp18_5)) (dt hp27_0) (dt hp27_1) (dt (nf hp27_2))
              · rename_i hp28_0 hp28_1 hp28_2
                subst hA; exact hV.g28 _ _ _ hI0 _ _ hI1 _ _ _ hI2 (dt hp3_0) (dt (nf hp3_1)) (dt hp3_2) (dt (nf hp3_3)) (dt hp3_4) (dt (nf hp3_5)) (dt hp7_0) (dt hp7_1) (dt (nf hp7_2)) (dt hp18_0) (dt (nf hp18_1)) (dt hp18_2) (dt (nf hp18_3)) (dt hp18_4) (dt (nf hp18_5)) (dt hp28_0) (dt hp28_1) (dt (nf hp28_2))
              · rename_i hp29_0 hp29_1 hp29_2
                subst hA; exact hV.g29 _ _ _ hI0 _ _ hI1 _ _ _ hI2 (dt hp3_0) (dt (nf hp3_1)) (dt hp3_2) (dt (nf hp3_3)) (dt hp3_4) (dt (nf hp3_5)) (dt hp7_0) (dt hp7_1) (dt (nf hp7_2)) (dt hp18_0) (dt (nf hp18_1)) (dt hp18_2) (dt (nf hp18_3)) (dt hp18_4) (dt (nf hp18_5)) (dt hp29_0) (dt hp29_1) (dt (nf hp29_2))
              · rename_i hp30_0 hp30_1 hp30_2
                refine hK2 (x2_0, A.add x2_1 (A.mul a2 (A.max (A.di (A.get (A.dl (A.get (A.dl (A.get a1 (A.toNat x0_2) 0)) (A.toNat x1_1) 0)) (A.toNat x2_2) 0)) (A.sub 0 (A.di (A.get (A.dl (A.get (A.dl (A.get a1 (A.toNat x0_2) 0)) (A.toNat x1_1) 0)) (A.toNat x2_2) 0))))), A.add x2_2 1) _ ?_ ?_ ?_
                · subst hA; exact (hV.n30 _ _ _ hI0 _ _ hI1 _ _ _ hI2 (dt hp3_0) (dt (nf hp3_1)) (dt hp3_2) (dt (nf hp3_3)) (dt hp3_4) (dt (nf hp3_5)) (dt hp7_0) (dt hp7_1) (dt (nf hp7_2)) (dt hp18_0) (dt (nf hp18_1)) (dt hp18_2) (dt (nf hp18_3)) (dt hp18_4) (dt (nf hp18_5)) (dt hp30_0) (dt hp30_1) (dt (nf hp30_2))).1
                · subst hA; exact (hV.n30 _ _ _ hI0 _ _ hI1 _ _ _ hI2 (dt hp3_0) (dt (nf hp3_1)) (dt hp3_2) (dt (nf hp3_3)) (dt hp3_4) (dt (nf hp3_5)) (dt hp7_0) (dt hp7_1) (dt (nf hp7_2)) (dt hp18_0) (dt (nf hp18_1)) (dt hp18_2) (dt (nf hp18_3)) (dt hp18_4) (dt (nf hp18_5)) (dt hp30_0) (dt hp30_1) (dt (nf hp30_2))).2
                · clear hE hinl hV hK2; cbv; (try (repeat' (first | exact True.intro | rfl | assumption | apply And.intro)))
              · rename_i hp31_0 hp31_1
                subst hA; exact hV.g31 _ _ _ hI0 _ _ hI1 _ _ _ hI2 (dt hp3_0) (dt (nf hp3_1)) (dt hp3_2) (dt (nf hp3_3)) (dt hp3_4) (dt (nf hp3_5)) (dt hp7_0) (dt hp7_1) (dt (nf hp7_2)) (dt hp18_0) (dt (nf hp18_1)) (dt hp18_2) (dt (nf hp18_3)) (dt hp18_4) (dt (nf hp18_5)) (dt hp31_0) (df hp31_1)
              · rename_i hp32_0 hp32_1
                subst hA; exact hV.g32 _ _ _ hI0 _ _ hI1 _ _ _ hI2 (dt hp3_0) (dt (nf hp3_1)) (dt hp3_2) (dt (nf hp3_3)) (dt hp3_4) (dt (nf hp3_5)) (dt hp7_0) (dt hp7_1) (dt (nf hp7_2)) (dt hp18_0) (dt (nf hp18_1)) (dt hp18_2) (dt (nf hp18_3)) (dt hp18_4) (dt (nf hp18_5)) (df hp32_0) (dt hp32_1)
              · rename_i hp33_0 hp33_1
                subst hA; exact hV.g33 _ _ _ hI0 _ _ hI1 _ _ _ hI2 (dt hp3_0) (dt (nf hp3_1)) (dt hp3_2) (dt (nf hp3_3)) (dt hp3_4) (dt (nf hp3_5)) (dt hp7_0) (dt hp7_1) (dt (nf hp7_2)) (dt hp18_0) (dt (nf hp18_1)) (dt hp18_2) (dt (nf hp18_3)) (dt hp18_4) (dt (nf hp18_5)) (df hp33_0) (df hp33_1)
              · rename_i hp34_0 hp34_1
                refine hK1 (x2_0, A.add x1_1 1) _ ?_ ?_ ?_
                · subst hA; exact (hV.n34 _ _ _ hI0 _ _ hI1 _ _ _ hI2 (dt hp3_0) (dt (nf hp3_1)) (dt hp3_2) (dt (nf hp3_3)) (dt hp3_4) (dt (nf hp3_5)) (dt hp7_0) (dt hp7_1) (dt (nf hp7_2)) (dt hp18_0) (dt (nf hp18_1)) (dt hp18_2) (dt (nf hp18_3)) (dt hp18_4) (dt (nf hp18_5)) (df hp34_0) (df hp34_1)).1
                · subst hA; exact (hV.n34 _ _ _ hI0 _ _ hI1 _ _ _ hI2 (dt hp3_0) (dt (nf hp3_1)) (dt hp3_2) (dt (nf hp3_3)) (dt hp3_4) (dt (nf hp3_5)) (dt hp7_0) (dt hp7_1) (dt (nf hp7_2)) (dt hp18_0) (dt (nf hp18_1)) (dt hp18_2) (dt (nf hp18_3)) (dt hp18_4) (dt (nf hp18_5)) (df hp34_0) (df hp34_1)).2
                · clear hE hinl hV hK1; cbv; (try (repeat' (first | exact True.intro | rfl | assumption | apply And.intro)))
          · rename_i hp35_0 hp35_1 hp35_2 hp35_3 hp35_4
            subst hA; exact hV.g35 _ _ _ hI0 _ _ hI1 (dt hp3_0) (dt (nf hp3_1)) (dt hp3_2) (dt (nf hp3_3)) (dt hp3_4) (dt (nf hp3_5)) (dt hp7_0) (dt hp7_1) (dt (nf hp7_2)) (dt hp35_0) (dt (nf hp35_1)) (dt hp35_2) (dt (nf hp35_3)) (df hp35_4)
          · rename_i hp36_0 hp36_1 hp36_2
            subst hA; exact hV.g36 _ _ _ hI0 _ _ hI1 (dt hp3_0) (dt (nf hp3_1)) (dt hp3_2) (dt (nf hp3_3)) (dt hp3_4) (dt (nf hp3_5)) (dt hp7_0) (dt hp7_1) (dt (nf hp7_2)) (dt hp36_0) (dt (nf hp36_1)) (df hp36_2)
          · rename_i hp37_0
            subst hA; exact hV.g37 _ _ _ hI0 _ _ hI1 (dt hp3_0) (dt (nf hp3_1)) (dt hp3_2) (dt (nf hp3_3)) (dt hp3_4) (dt (nf hp3_5)) (dt hp7_0) (dt hp7_1) (dt (nf hp7_2)) (df hp37_0)
          · rename_i hp38_0
            subst hA; exact hV.g38 _ _ _ hI0 _ _ hI1 (dt hp3_0) (dt (nf hp3_1)) (dt hp3_2) (dt (nf hp3_3)) (dt hp3_4) (dt (nf hp3_5)) (dt hp7_0) (dt hp7_1) (dt (nf hp7_2)) (df hp38_0)
          · rename_i hp39_0
            subst hA; exact hV.g39 _ _ _ hI0 _ _ hI1 (dt hp3_0) (dt (nf hp3_1)) (dt hp3_2) (dt (nf hp3_3)) (dt hp3_4) (dt (nf hp3_5)) (dt hp7_0) (dt hp7_1) (dt (nf hp7_2)) (df hp39_0)
          · rename_i hp40_0
            refine hK0 (x1_0, A.nat (A.len (A.dl (A.get a1 (A.toNat x0_2) 0))), A.add x0_2 1) _ ?_ ?_ ?_
            · subst hA; exact (hV.n40 _ _ _ hI0 _ _ hI1 (dt hp3_0) (dt (nf hp3_1)) (dt hp3_2) (dt (nf hp3_3)) (dt hp3_4) (dt (nf hp3_5)) (dt hp7_0) (dt hp7_1) (dt (nf hp7_2)) (df hp40_0)).1
            · subst hA; exact (hV.n40 _ _ _ hI0 _ _ hI1 (dt hp3_0) (dt (nf hp3_1)) (dt hp3_2) (dt (nf hp3_3)) (dt hp3_4) (dt (nf hp3_5)) (dt hp7_0) (dt hp7_1) (dt (nf hp7_2)) (df hp40_0)).2
            · clear hE hinl hV hK0; cbv; (try (repeat' (first | exact True.intro | rfl | assumption | apply And.intro)))
      · rename_i hp41_0 hp41_1
        subst hA; exact hV.g41 _ _ _ hI0 (dt hp3_0) (dt (nf hp3_1)) (dt hp3_2) (dt (nf hp3_3)) (dt hp3_4) (dt (nf hp3_5)) (dt hp41_0) (df hp41_1)
      · rename_i hp42_0
        subst hA; exact hV.g42 _ _ _ hI0 (dt hp3_0) (dt (nf hp3_1)) (dt hp3_2) (dt (nf hp3_3)) (dt hp3_4) (dt (nf hp3_5)) (df hp42_0)
  · rename_i hp43_0 hp43_1 hp43_2 hp43_3 hp43_4
    subst hA; exact hV.g43 (dt hp43_0) (dt (nf hp43_1)) (dt hp43_2) (dt (nf hp43_3)) (df hp43_4)
  · rename_i hp44_0 hp44_1 hp44_2
    subst hA; exact hV.g44 (dt hp44_0) (dt (nf hp44_1)) (df hp44_2)
  · rename_i hp45_0
    subst hA; exact hV.g45 (df hp45_0)
end HX

namespace HX
open Go Go.Proofs CX
set_option maxHeartbeats 4000000 in
set_option maxRecDepth 100000 in
theorem walk85 {ro A pre fn} (hE : EnvOk ⟨A, (cxE ro), ksF, sigL [], pre, fn⟩) {P : List (List D) → Prop} {res : List (List D) → Nat → Nat → D}
    (hv : ∀ (a0 : Int), P [[.i a0]] → V85 a0 (res [[.i a0]]) ) :
    PureC (cxE ro) 85 ⟨[(false, [.int .i64])], [(true, [.int .i64, .int .i64, .int .i64, .int .i64, .int .i64, .int .i64, .int .i64, .int .i64])], false⟩ P res := by
  have hA := hE.A
  simp only [] at hA
  have hinl : ∀ f fn, inlL [] f = some fn → (cxE ro).fn f = some fn ∧ (cxE ro).ext f = none := Inls.ok (by repeat (first | exact .nil | refine .cons rfl rfl ?_))
  refine PureC.of_vc hE hinl 6 (f := 85) (fn := Tryz.f85) ⟨rfl, rfl⟩ ?_
  intro a0 hP
  obtain ⟨R, hR⟩ : ∃ R, res [[.i a0]] = R := ⟨_, rfl⟩
  rw [hR]
  have hV := hv a0  hP
  rw [hR] at hV
  clear hR hP hv
  cbv
  repeat' (first | (refine Br.mk (fun _ => ?_) (fun _ => ?_) <;> cbv) | (refine NilB.mk (fun _ => ?_) ?_ <;> cbv) | refine And.intro ?_ ?_ | exact True.intro)
  · subst hA; exact hV.g0
  · subst hA; exact hV.g1
  · subst hA; exact hV.g2
  · subst hA; exact hV.g3
  · subst hA; exact hV.g4
  · subst hA; exact hV.g5
  · subst hA; exact hV.g6
  · subst hA; exact hV.g7
end HX

namespace HX
open Go Go.Proofs CX
set_option maxHeartbeats 4000000 in
set_option maxRecDepth 100000 in
theorem walk138 {ro A pre fn} (hE : EnvOk ⟨A, (cxE ro), ksF, sigL [], pre, fn⟩) {P : List (List D) → Prop} {res : List (List D) → Nat → Nat → D}
    (hv : ∀ (a0 : Int), P [[.i a0]] → V138 a0 (res [[.i a0]]) ) :
    PureC (cxE ro) 138 ⟨[(false, [.int .i64])], [(false, [.int .i64])], false⟩ P res := by
  have hA := hE.A
  simp only [] at hA
  have hinl : ∀ f fn, inlL [] f = some fn → (cxE ro).fn f = some fn ∧ (cxE ro).ext f = none := Inls.ok (by repeat (first | exact .nil | refine .cons rfl rfl ?_))
  refine PureC.of_vc hE hinl 6 (f := 138) (fn := Tryz.f138) ⟨rfl, rfl⟩ ?_
  intro a0 hP
  obtain ⟨R, hR⟩ : ∃ R, res [[.i a0]] = R := ⟨_, rfl⟩
  rw [hR]
  have hV := hv a0  hP
  rw [hR] at hV
  clear hR hP hv
  cbv
  repeat' (first | (refine Br.mk (fun _ => ?_) (fun _ => ?_) <;> cbv) | (refine NilB.mk (fun _ => ?_) ?_ <;> cbv) | refine And.intro ?_ ?_ | exact True.intro)
  · subst hA; exact hV.g0
  · subst hA; exact hV.g1
end HX

namespace HX
open Go Go.Proofs CX

theorem law15 {a : Rows} (hlen : a.length ≤ 9223372036854775807) {R : Nat → Nat → D} (hR : R 0 0 = .b true) : V15 a a R (fun _ x => ∃ r : Nat, x = r ∧ r ≤ a.length) (fun _ x => (a.length - x).toNat) := by
  constructor
  all_goals (try (intro s x ⟨r, hx, hr⟩; subst hx))
  all_goals (intros; (try simp only [Int.toNat_natCast] at *))
  all_goals first
    | omega
    | exact hR
    | exact ⟨0, rfl, by omega⟩
    | (refine ⟨⟨r + 1, rfl, ?_⟩, ?_⟩ <;> omega)
    | (exfalso; rename_i h; exact h trivial)
    | skip

def p80 : List (List D) → Prop
  | [[.l w], [.l x], [.nil]] => dotPre w x
  | _ => False
def r80 : List (List D) → Nat → Nat → D
  | [[.l w], [.l x], [.nil]], _, _ => .i (dot w x 0)
  | _, _, _ => .nil
def p74 : List (List D) → Prop
  | [[.i _, .i _, .i _, .i b, .i s], [.l w]] => joinsPre b s w
  | _ => False
def r74 : List (List D) → Nat → Nat → D
  | [[.i _, .i _, .i n, .i b, .i s], [.l w]], _, _ => .l (joinsL n b s w 0)
  | _, _, _ => .nil
def p138 : List (List D) → Prop
  | [[.i x]] => -32000 ≤ x ∧ x ≤ 32000
  | _ => False
def r138 : List (List D) → Nat → Nat → D
  | [[.i x]], _, _ => .i (mxI x (0 - x))
  | _, _, _ => .nil
def r78 : List (List D) → Nat → Nat → D
  | [[.i a], [.l l], [.i m]], _, _ => .i (cntErr a l m)
  | _, _, _ => .nil
def r79 : List (List D) → Nat → Nat → D
  | [[.l x], [.i m]], _, _ => .b (okX m x)
  | _, _, _ => .nil
def r37 : List (List D) → Nat → Nat → D
  | [[.l l], [.i m], [.l x]], 0, _ => .l (levL l m x)
  | [[.l l], [.i m], [.l x]], _, _ => .i (levE l m x)
  | _, _, _ => .nil
def r39 : List (List D) → Nat → Nat → D
  | [[.i a], [.l l], [.i m]], 0, 0 => .l (frmN a l m)
  | [[.i a], [.l l], [.i m]], 0, 1 => .i (frmI a l m)
  | [[.i a], [.l l], [.i m]], 0, _ => .l (frmS a l m)
  | [[.i a], [.l l], [.i m]], _, _ => .i (cntErr a l m)
  | _, _, _ => .nil
noncomputable def r41 : List (List D) → Nat → Nat → D
  | [[.i y], [.i m], [.l x]], 0, _ => .l (evL y m x)
  | [[.i y], [.i m], [.l x]], _, _ => .i (evE y m x)
  | _, _, _ => .nil
def c15 : Ctr := ⟨15, ⟨[(false, [.sl [.int .i64]]), (false, [.sl [.int .i64]])], [(false, [.bool])], false⟩, eqPre, yes⟩
def c37 : Ctr := ⟨37, ⟨[(false, [.sl [.sl [.sl [.int .i64], .int .i64, .int .i64]]]), (false, [.int .i64]), (false, [.sl [.int .i64]])], [(false, [.sl [.int .i64]]), (false, [.int .i64])], false⟩, (fun _ => True), r37⟩
def c38 : Ctr := ⟨38, ⟨[(false, [.sl [.sl [.sl [.int .i64], .int .i64, .int .i64]]]), (false, [.int .i64]), (false, [.sl [.int .i64]])], [(false, [.sl [.int .i64]]), (false, [.int .i64])], false⟩, (fun _ => True), r37⟩
def c39 : Ctr := ⟨39, ⟨[(false, [.int .i64]), (false, [.sl [.sl [.sl [.int .i64], .int .i64, .int .i64]]]), (false, [.int .i64])], [(true, [.sl [.int .i64, .int .i64, .int .i64, .int .i64, .int .i64, .int .i64, .int .i64, .int .i64], .int .i64, .sl [.int .i64, .int .i64, .int .i64, .int .i64]]), (false, [.int .i64])], false⟩, (fun _ => True), r39⟩
def c40 : Ctr := ⟨40, ⟨[(false, [.int .i64]), (false, [.sl [.sl [.sl [.int .i64], .int .i64, .int .i64]]]), (false, [.int .i64])], [(true, [.sl [.int .i64, .int .i64, .int .i64, .int .i64, .int .i64, .int .i64, .int .i64, .int .i64], .int .i64, .sl [.int .i64, .int .i64, .int .i64, .int .i64]]), (false, [.int .i64])], false⟩, (fun _ => True), r39⟩
noncomputable def c41 : Ctr := ⟨41, ⟨[(false, [.int .i64]), (false, [.int .i64]), (false, [.sl [.int .i64]])], [(false, [.sl [.int .i64, .int .i64]]), (false, [.int .i64])], false⟩, (fun _ => True), r41⟩
noncomputable def c42 : Ctr := ⟨42, ⟨[(false, [.int .i64]), (false, [.int .i64]), (false, [.sl [.int .i64]])], [(false, [.sl [.int .i64, .int .i64]]), (false, [.int .i64])], false⟩, (fun _ => True), r41⟩
def c74 : Ctr := ⟨74, ⟨[(true, [.int .i64, .int .i64, .int .i64, .int .i64, .int .i64]), (false, [.sl [.int .i64]])], [(false, [.sl [.int .i64, .int .i64, .int .i64, .int .i64]])], false⟩, p74, r74⟩
def c75 : Ctr := ⟨75, ⟨[(true, [.int .i64, .int .i64, .int .i64, .int .i64, .int .i64]), (false, [.int .i64]), (false, [.int .i64])], [(true, [.int .i64, .int .i64, .int .i64, .int .i64])], false⟩, (fun _ => True), r75⟩
def c78 : Ctr := ⟨78, ⟨[(false, [.int .i64]), (false, [.sl [.sl [.sl [.int .i64], .int .i64, .int .i64]]]), (false, [.int .i64])], [(false, [.int .i64])], false⟩, (fun _ => True), r78⟩
def c79 : Ctr := ⟨79, ⟨[(false, [.sl [.int .i64]]), (false, [.int .i64])], [(false, [.bool])], false⟩, (fun _ => True), r79⟩
def c80 : Ctr := ⟨80, ⟨[(false, [.sl [.int .i64]]), (false, [.sl [.int .i64]]), (false, [.fnc 81])], [(false, [.int .i64])], false⟩, p80, r80⟩
def c82 : Ctr := ⟨82, ⟨[(false, [.int .i64]), (false, [.sl [.sl [.sl [.int .i64], .int .i64, .int .i64]]]), (false, [.int .i64])], [(false, [.int .i64])], false⟩, (fun _ => True), r78⟩
def c85 : Ctr := ⟨85, ⟨[(false, [.int .i64])], [(true, [.int .i64, .int .i64, .int .i64, .int .i64, .int .i64, .int .i64, .int .i64, .int .i64])], false⟩, (fun _ => True), r85⟩
def c138 : Ctr := ⟨138, ⟨[(false, [.int .i64])], [(false, [.int .i64])], false⟩, p138, r138⟩
def c51 : Ctr := ⟨51, ⟨[BOU], [BOOL], false⟩, (fun _ => True), holdRes⟩
section
variable (ro : Addr → Option V)
theorem k51 : PureC (cxE ro) c51.f c51.sg c51.pre c51.res := hold_pure (envL (l := []) .nil)
theorem k138 : PureC (cxE ro) c138.f c138.sg c138.pre c138.res := walk138 (envL (l := []) .nil) fun _ h => law138 h rfl
theorem k85 : PureC (cxE ro) c85.f c85.sg c85.pre c85.res := walk85 (envL (l := []) .nil) fun _ _ => ⟨rfl, rfl, rfl, rfl, rfl, rfl, rfl, rfl⟩
theorem k75 : PureC (cxE ro) c75.f c75.sg c75.pre c75.res := walk75 (envL (l := []) .nil) fun _ _ _ _ _ _ _ _ => ⟨rfl, rfl, rfl, rfl⟩
theorem k80 : PureC (cxE ro) c80.f c80.sg c80.pre c80.res := walk80 (envL (l := []) .nil) fun _ _ _ _ h => ⟨_, _, law80 h rfl⟩
theorem k74 : PureC (cxE ro) c74.f c74.sg c74.pre c74.res := walk74 (envL (l := []) .nil) fun _ _ _ _ _ _ _ h => ⟨_, _, law74 h rfl⟩
theorem k15 : PureC (cxE ro) c15.f c15.sg c15.pre c15.res := walk15 (envL (l := []) .nil) fun a b h _ he => by
  have e : a = b := by simpa [c15, eqPre] using he
  subst e
  exact ⟨_, _, law15 h.2 rfl⟩
theorem k79 : PureC (cxE ro) c79.f c79.sg c79.pre c79.res := walk79 (envL (l := [c51]) (.cons (k51 ro) .nil)) fun _ _ h _ => ⟨_, _, law79 rfl rfl h.2 rfl⟩
theorem k78 : PureC (cxE ro) c78.f c78.sg c78.pre c78.res := walk78 (envL (l := [c51, c138]) (.cons (k51 ro) (.cons (k138 ro) .nil))) fun _ _ _ _ _ => ⟨_, _, _, _, _, _, law78 rfl rfl (fun _ => rfl) (fun _ => rfl) rfl⟩
theorem k82 : PureC (cxE ro) c82.f c82.sg c82.pre c82.res := walk82 (envL (l := []) .nil) fun _ _ _ _ _ => ⟨_, _, _, _, _, _, law82 rfl⟩
theorem k37 : PureC (cxE ro) c37.f c37.sg c37.pre c37.res := walk37 (envL (l := [c78, c79, c80]) (.cons (k78 ro) (.cons (k79 ro) (.cons (k80 ro) .nil)))) fun _ _ _ _ _ _ => ⟨_, _, _, _, law37 rfl (fun _ _ _ => rfl) rfl (fun _ _ => rfl) (fun _ _ => rfl) (fun _ _ => rfl) rfl rfl⟩
theorem k38 : PureC (cxE ro) c38.f c38.sg c38.pre c38.res := walk38 (envL (l := [c82]) (.cons (k82 ro) .nil)) fun _ _ _ _ _ _ => ⟨_, _, _, _, _, _, _, _, law38 rfl (fun _ _ _ => rfl) rfl rfl⟩
theorem k39 : PureC (cxE ro) c39.f c39.sg c39.pre c39.res := walk39 (envL (l := [c78, c74, c75, c85]) (.cons (k78 ro) (.cons (k74 ro) (.cons (k75 ro) (.cons (k85 ro) .nil))))) fun _ _ _ _ _ => ⟨_, _, _, _, _, _, law39 rfl (fun _ _ _ => rfl) (fun _ _ _ _ _ _ => rfl) (fun _ _ _ _ _ _ => rfl) rfl rfl rfl rfl rfl rfl rfl rfl⟩
theorem k40 : PureC (cxE ro) c40.f c40.sg c40.pre c40.res := walk40 (envL (l := [c82]) (.cons (k82 ro) .nil)) fun _ _ _ _ _ => ⟨_, _, _, _, _, _, law40 rfl (fun _ _ _ => rfl) rfl rfl rfl rfl⟩
theorem k41 : PureC (cxE ro) c41.f c41.sg c41.pre c41.res := walk41 (envL (l := [c51, c79]) (.cons (k51 ro) (.cons (k79 ro) .nil))) fun _ _ _ _ _ => ⟨_, _, _, _, _, _, law41 rfl rfl rfl (fun _ _ => rfl) rfl rfl⟩
def c18 : Ctr := ⟨18, ⟨[], [(false, [.bool])], false⟩, (fun _ => True), (fun _ _ _ => .b true)⟩
def c34 : Ctr := ⟨34, ⟨[NET, NET], [BOOL], false⟩, eqPre, yes⟩
def c21 : Ctr := ⟨21, ⟨[EVS, EVS], [BOOL], false⟩, eqPre, yes⟩
theorem k18 : PureC (cxE ro) c18.f c18.sg c18.pre c18.res := works_pure
theorem k34 : PureC (cxE ro) c34.f c34.sg c34.pre c34.res := nets_pure (envL (l := []) .nil)
theorem k21 : PureC (cxE ro) c21.f c21.sg c21.pre c21.res := events_pure (envL (l := []) .nil)
theorem k42 : PureC (cxE ro) c42.f c42.sg c42.pre c42.res := walk42 (envL (l := []) .nil) fun _ _ _ _ _ => ⟨_, _, _, _, _, _, _, _, _, _, law42 rfl rfl⟩
end
end HX

namespace HX
open Go Go.Proofs CX

theorem ints_ShL {k : IntKind} {row : List D} (h : ShL [.sl [.int k], .int .i64, .int .i64] row) : row = [.l (lR row), .i (uB row), .i (uT row)] := by
  match row, h with
  | [a, b, c], h =>
    simp only [ShL, ShK] at h
    obtain ⟨⟨w, rfl, _⟩, ⟨x, rfl⟩, ⟨y, rfl⟩, _⟩ := h
    rfl
theorem lay_ShL {ks : List Kd} {row : List D} (h : ShL [.sl ks] row) : row = [.l (lR row)] ∧ ShR ks (lR row) := by
  match row, h with
  | [a], h =>
    simp only [ShL, ShK] at h
    obtain ⟨⟨w, rfl, hw⟩, _⟩ := h
    exact ⟨rfl, hw⟩

theorem law6 {pre : Nat → List (List D) → Prop} {fn : Nat → List (List D) → Nat → Nat → D} (hp18 : pre 18 []) (hf18 : fn 18 [] 0 0 = .b true)
    (hp37 : ∀ x, pre 37 x) (hp38 : ∀ x, pre 38 x) (hf37 : ∀ x, fn 37 x = fn 38 x) (hp15 : ∀ x, pre 15 [x, x]) (hf15 : ∀ x, fn 15 x 0 0 = .b true)
    (hp39 : ∀ x, pre 39 x) (hp40 : ∀ x, pre 40 x) (hf39 : ∀ x, fn 39 x = fn 40 x) (hp34 : ∀ x, pre 34 [x, x]) (hf34 : ∀ x, fn 34 x 0 0 = .b true)
    (hp41 : ∀ x, pre 41 x) (hp42 : ∀ x, pre 42 x) (hf41 : ∀ x, fn 41 x = fn 42 x) (hp21 : ∀ x, pre 21 [x, x]) (hf21 : ∀ x, fn 21 x 0 0 = .b true)
    {a0 : Int} {a1 : Rows} {a2 : Int} {a3 : Rows} {a4 : Int} (hsh : ShR [.sl [.sl [.int .i64], .int .i64, .int .i64]] a1) {R : Nat → Nat → D} (hR : R 0 0 = .b true) :
    V6 pre fn a0 a1 a2 a3 a4 R (fun _ p k => ∃ r : Nat, k = r ∧ r ≤ a1.length ∧ p.length = r ∧ p ++ a1.drop r = a1) (fun _ _ k => (a1.length - k).toNat)
      (fun _ _ k _ acc j => ∃ q : Nat, j = q ∧ q ≤ (lR (a1.getD k.toNat [])).length ∧ acc.length = q ∧ acc ++ (lR (a1.getD k.toNat [])).drop q = lR (a1.getD k.toNat [])) (fun _ _ k _ _ j => ((lR (a1.getD k.toNat [])).length - j).toNat) := by
  have hbool : ∀ b : Bool, (D.b b).boo = b := fun _ => rfl
  constructor
  all_goals (try (intro e0 p k hI0; obtain ⟨r, hx0, hr, hl, hp⟩ := hI0; subst hx0; (try simp only [Int.toNat_natCast] at *)))
  all_goals (try (intro e1 acc j hI1; obtain ⟨q, hx1, hq, hql, hq2⟩ := hI1; subst hx1; (try simp only [Int.toNat_natCast] at *)))
  all_goals (intros; (try simp only [gt_lR, gt_uB, gt_uT, gt_wI, List.length_cons, List.length_nil] at *))
  all_goals (try omega)
  all_goals (try (exact hp18))
  all_goals (try (rw [hR, hf18]; rfl))
  case i0 => exact ⟨0, rfl, by omega, rfl, rfl⟩
  case i1 => exact ⟨0, rfl, by omega, rfl, rfl⟩
  case n33 =>
    have hr1 : r < a1.length := by omega
    have hq1 : q < (lR (a1.getD r [])).length := by omega
    refine ⟨⟨q + 1, rfl, by omega, by simp; omega, ?_⟩, by omega⟩
    have hrow := ints_ShL ((lay_ShL (hsh.1 _ (row_mem hr1))).2.1 _ (row_mem hq1))
    rw [drop_row hq1] at hq2
    rw [List.append_assoc, List.nil_append, ← hrow]
    exact hq2
  case n36 =>
    have hr1 : r < a1.length := by omega
    rw [drop_end (by omega), List.append_nil] at hq2
    refine ⟨⟨r + 1, rfl, by omega, by simp; omega, ?_⟩, by omega⟩
    have hrow := (lay_ShL (hsh.1 _ (row_mem hr1))).1
    rw [drop_row hr1] at hp
    rw [List.append_assoc, hq2, ← hrow]
    exact hp
  all_goals (rw [drop_end (by omega), List.append_nil] at hp; subst hp)
  all_goals (simp only [hf37, hf39, hf41, hf15, hf34, hf21, hp37, hp38, hp39, hp40, hp41, hp42, hp15, hp34, hp21, hf18, hbool] at *)
  all_goals first
    | exact hR
    | trivial
    | contradiction
    | (exfalso; rename_i h; exact h rfl)
    | skip
end HX

namespace HX
open Go Go.Proofs CX
noncomputable def l6 : List Ctr := [c18, c37, c38, c15, c39, c40, c34, c41, c42, c21]
theorem k6 (ro : Addr → Option V) : Ctrs (cxE ro) l6 := .cons (k18 ro) (.cons (k37 ro) (.cons (k38 ro) (.cons (k15 ro) (.cons (k39 ro) (.cons (k40 ro) (.cons (k34 ro) (.cons (k41 ro) (.cons (k42 ro) (.cons (k21 ro) .nil)))))))))
theorem law6' {a0 : Int} {a1 : Rows} {a2 : Int} {a3 : Rows} {a4 : Int} (hsh : ShR [.sl [.sl [.int .i64], .int .i64, .int .i64]] a1) :
    V6 (preOf l6) (resOf l6) a0 a1 a2 a3 a4 (fun _ _ => .b true) (fun _ p k => ∃ r : Nat, k = r ∧ r ≤ a1.length ∧ p.length = r ∧ p ++ a1.drop r = a1) (fun _ _ k => (a1.length - k).toNat)
      (fun _ _ k _ acc j => ∃ q : Nat, j = q ∧ q ≤ (lR (a1.getD k.toNat [])).length ∧ acc.length = q ∧ acc ++ (lR (a1.getD k.toNat [])).drop q = lR (a1.getD k.toNat [])) (fun _ _ k _ _ j => ((lR (a1.getD k.toNat [])).length - j).toNat) := by

  refine law6 ?_ ?_ ?_ ?_ ?_ ?_ ?_ ?_ ?_ ?_ ?_ ?_ ?_ ?_ ?_ ?_ ?_ hsh rfl
  all_goals first
    | trivial
    | exact fun _ => trivial
    | rfl
    | exact fun _ => rfl
end HX

namespace Go.Proofs.YtlgaegbommfdmaaGreat.codeLevels
open Go.ChangeShapes Go.WideShapes Go.ChangeAt Go.RowKit HX

def ps : List (Bool × List Kd) := [(false, [.int .i64]), (false, [.sl [.sl [.sl [.int .i64], .int .i64, .int .i64]]]), (false, [.int .i64]), (false, [.sl [.int .i64]]), (false, [.int .i64])]
theorem law (ro : Addr → Option CX.V) : PureC0 (cxE ro) 6 ⟨ps, [(false, [.bool])], false⟩ (RngAll ps) trueRes := walk6 (envL (l := l6) (k6 ro)) fun _ _ _ _ _ h _ _ => ⟨_, _, _, _, law6' h⟩

theorem lenN {α β : Type} {F : List α → β} {G : List α → β} (h : ∀ a b c d e, F [a, b, c, d, e] = G [a, b, c, d, e]) : ∀ ds : List α, ds.length = 5 → F ds = G ds
  | [a, b, c, d, e], _ => h a b c d e

set_option maxRecDepth 100000 in
set_option maxHeartbeats 400000 in
theorem lifted (os : Os) (started : os.Started) (H : Type) (enc : TypeId × Value → H) :
    ReturnsInHanded {} Tryz.checked os 6 .any (Rows.codeLevelsSpec.pre6 enc Tryz.prog Tryz.f6 Rows.codeLevelsRow.domain false) (Rows.codeLevelsSpec.post enc Tryz.prog Tryz.f6 false true false false) := by
  refine returnsInHanded_of_change (C := Tryz.checked) own started (by kernel_rfl) Tryz.func6
    (ChangeSpec.witness6 (enc := enc) (C := Tryz.checked) false ⟨#[], #[.int .i64 0, .slice none 0 0, .int .i64 0, .slice none 0 0, .int .i64 0], []⟩ 8 (by kernel_rfl) (by kernel_rfl) (by kernel_rfl) (by kernel_rfl)) ?_
  intro W base args ds gs before hval hW _ _
  exact said (f := Tryz.f6) (s := Rows.codeLevelsSpec) (n := 8) (tb := 4) cxE_ok law (by kernel_rfl) laid (by kernel_rfl) rfl Tryz.underlying4
    (lenN (F := Rows.codeLevelsSpec.fn H) (G := fun ds => ⟨[.lit (.bool true)], ds, []⟩) fun _ _ _ _ _ => rfl) rfl W base args ds gs before hval hW

theorem holds : Rows.CodeLevelsSaid :=
  OpenClaim.holds_of_wide 6 Tryz.f6 rfl rfl rfl rfl rfl rfl rfl ⟨rfl, rfl, rfl, rfl, rfl⟩ rfl rfl rfl rfl rfl (by kernel_rfl) Tryz.func6 (by kernel_rfl)
    (of_decide_eq_true (by kernel_rfl)) (by unfold Func.isWrapper; first | (rw [if_pos (by decide +kernel)]; kernel_rfl) | (rw [if_neg (by decide +kernel)]; exact ⟨rfl, rfl⟩))
    (fun os started H enc _ => lifted os started H enc)
end Go.Proofs.YtlgaegbommfdmaaGreat.codeLevels
