/-
  Texts of the executors: W4, HxEnv, CxClose, HxBase, HxClose, HxOwn, HxCtr, CbB, CtT, CtS, CsS, V21, V20, V38, V18, V7, V10, V12, V9, ClL, V11, CsL, V6, V8, ClM, CsM.
-/
import Derived.Test.YtlijpmeeldoofaaCalcShapes9
import Derived.WalkKit
import Derived.ProofKit
import Derived.JoinedCond
import Derived.RowKit3
import Derived.ChangeArms
import Derived.ChangeCalls
import Derived.WideKeyArgs
set_option linter.all false
namespace HX
open Go Go.Proofs CX
set_option maxHeartbeats 4000000 in
set_option maxRecDepth 100000 in
set_option cbv.maxSteps 3000000 in
theorem walk4 {ro A pre fn} (hE : EnvOk ⟨A, (cxE ro), ksF, sigL [(5, ⟨[], [(false, [.bool])], false⟩), (6, ⟨[(false, [.sl [.int .u8]])], [(false, [.sl [.int .i64]])], false⟩), (8, ⟨[(false, [.sl [.int .i64]]), (true, [.int .i64, .int .i64])], [(false, [.bool])], false⟩), (9, ⟨[(false, [.int .i64]), (false, [.int .i64])], [(true, [.int .i64, .int .i64])], false⟩), (11, ⟨[(false, [.sl [.int .i64]]), (true, [.int .i64, .int .i64])], [(false, [.sl [.int .i64]]), (false, [.int .i64])], false⟩), (12, ⟨[(false, [.sl [.int .i64]]), (false, [.sl [.int .i64]])], [(false, [.bool])], false⟩)], pre, fn⟩) {P : List (List D) → Prop} {res : List (List D) → Nat → Nat → D}
    (hv : ∀ (a0 : Rows) (a1 : Int) (a2 : Int) (a3 : Rows), ShR [.int .u8] a0 → ShR [.int .u8] a3 → P [[.l a0], [.i a1], [.i a2], [.l a3]] → ∃ (I0 : Rows → Int → Prop) (m0 : Rows → Int → Nat) (I1 : Rows → Int → Int → Prop) (m1 : Rows → Int → Int → Nat) (I2 : Rows → Int → Int → Int → Prop) (m2 : Rows → Int → Int → Int → Nat) (I3 : Rows → Int → Int → Int → Int → Rows → Prop) (m3 : Rows → Int → Int → Int → Int → Rows → Nat) (I4 : Rows → Int → Bool → Int → Prop) (m4 : Rows → Int → Bool → Int → Nat) (I5 : Rows → Int → Prop) (m5 : Rows → Int → Nat) (I6 : Rows → Int → Int → Prop) (m6 : Rows → Int → Int → Nat) (I7 : Rows → Int → Int → Int → Prop) (m7 : Rows → Int → Int → Int → Nat) (I8 : Rows → Int → Int → Int → Int → Rows → Prop) (m8 : Rows → Int → Int → Int → Int → Rows → Nat) (I9 : Rows → Int → Bool → Int → Prop) (m9 : Rows → Int → Bool → Int → Nat), V4 pre fn a0 a1 a2 a3 (res [[.l a0], [.i a1], [.i a2], [.l a3]]) I0 m0 I1 m1 I2 m2 I3 m3 I4 m4 I5 m5 I6 m6 I7 m7 I8 m8 I9 m9) :
    PureC0 (cxE ro) 4 ⟨[(false, [.sl [.int .u8]]), (false, [.int .u16]), (false, [.int .u16]), (false, [.sl [.int .u8]])], [(false, [.bool])], false⟩ P res := by
  have hA := hE.A
  simp only [] at hA
  have hinl : ∀ f fn, inlL [] f = some fn → (cxE ro).fn f = some fn ∧ (cxE ro).ext f = none := Inls.ok (by repeat (first | exact .nil | refine .cons rfl rfl ?_))
  refine PureC0.of_vcJ hE [15, 17] hinl 6 (f := 4) (fn := Try.f4) ⟨rfl, rfl⟩ ?_
  intro a0 ha0 a1 a2 a3 ha3 hP
  obtain ⟨R, hR⟩ : ∃ R, res [[.l a0], [.i a1], [.i a2], [.l a3]] = R := ⟨_, rfl⟩
  rw [hR]
  obtain ⟨I0, m0, I1, m1, I2, m2, I3, m3, I4, m4, I5, m5, I6, m6, I7, m7, I8, m8, I9, m9, hV⟩ := hv a0 a1 a2 a3 ha0 ha3 hP
  rw [hR] at hV
  clear hR hP hv
  cbv
  repeat' (first | (refine Br.mk (fun _ => ?_) (fun _ => ?_) <;> cbv) | (refine NilB.mk (fun _ => ?_) ?_ <;> cbv) | refine And.intro ?_ ?_ | exact True.intro)
  · rename_i p0a
    subst hA; exact hV.g0 (dt p0a)
  · rename_i p1a
    subst hA; exact hV.g1 (dt p1a)
  · rename_i p2a p2b
    subst hA; exact hV.g2 (df p2a) (dt p2b)
  · rename_i p3a p3b
    subst hA; exact hV.g3 (df p3a) (dt p3b)
  · rename_i p4a p4b
    subst hA; exact hV.g4 (df p4a) (df p4b)
  · rename_i p5a p5b
    subst hA; exact hV.g5 (df p5a) (df p5b)
  · rename_i p6a p6b
    subst hA; exact hV.g6 (df p6a) (df p6b)
  · rename_i p7a p7b
    subst hA; exact hV.g7 (df p7a) (df p7b)
  · rename_i p8a p8b
    subst hA; exact hV.g8 (df p8a) (df p8b)
  · rename_i p9a p9b
    subst hA; exact hV.g9 (df p9a) (df p9b)
  · rename_i p10a p10b
    subst hA; exact hV.g10 (df p10a) (df p10b)
  · rename_i p11a p11b p11c p11d p11e
    subst hA; exact hV.g11 (df p11a) (df p11b) (df (nt p11c)) (dt p11d) (dt p11e)
  · rename_i p12a p12b p12c p12d p12e p12f
    subst hA; exact hV.g12 (df p12a) (df p12b) (df (nt p12c)) (dt p12d) (dt p12e) (dt p12f)
  · rename_i p13a p13b p13c p13d p13e p13f
    subst hA; exact hV.g13 (df p13a) (df p13b) (df (nt p13c)) (dt p13d) (dt p13e) (dt p13f)
  · rename_i p14a p14b p14c p14d p14e p14f p14g
    subst hA; exact hV.g14 (df p14a) (df p14b) (df (nt p14c)) (dt p14d) (dt p14e) (df p14f) (dt p14g)
  · rename_i p15a p15b p15c p15d p15e p15f p15g p15h
    subst hA; exact hV.g15 (df p15a) (df p15b) (df (nt p15c)) (dt p15d) (dt p15e) (df p15f) (dt p15g) (dt p15h)
  · rename_i p16a p16b p16c p16d p16e p16f p16g p16h
    subst hA; exact hV.g16 (df p16a) (df p16b) (df (nt p16c)) (dt p16d) (dt p16e) (df p16f) (dt p16g) (dt p16h)
  · rename_i p17a p17b p17c p17d p17e p17f p17g p17h
    subst hA; exact hV.g17 (df p17a) (df p17b) (df (nt p17c)) (dt p17d) (dt p17e) (df p17f) (dt p17g) (df p17h)
  · rename_i p18a p18b p18c p18d p18e p18f p18g
    subst hA; exact hV.g18 (df p18a) (df p18b) (df (nt p18c)) (dt p18d) (dt p18e) (df p18f) (df p18g)
  · rename_i p19a p19b p19c p19d p19e
    subst hA; exact hV.g19 (df p19a) (df p19b) (df (nt p19c)) (dt p19d) (df p19e)
  · rename_i p20a p20b p20c p20d
    subst hA; exact hV.g20 (df p20a) (df p20b) (df (nt p20c)) (df p20d)
  · rename_i p21a p21b p21c p21d
    subst hA; exact hV.g21 (df p21a) (df p21b) (dt (nf p21c)) (df (nt p21d))
  · rename_i p22a p22b p22c p22d
    subst hA; exact hV.g22 (df p22a) (df p22b) (dt (nf p22c)) (dt (nf p22d))
  · rename_i p23a p23b p23c p23d p23e
    subst hA; exact hV.g23 (df p23a) (df p23b) (dt (nf p23c)) (dt (nf p23d)) (nt p23e)
  · rename_i p24a p24b p24c p24d p24e
    subst hA; exact hV.g24 (df p24a) (df p24b) (dt (nf p24c)) (dt (nf p24d)) (nf p24e)
  · rename_i p25a p25b p25c p25d p25e p25f
    subst hA; exact hV.g25 (df p25a) (df p25b) (dt (nf p25c)) (dt (nf p25d)) (nf p25e) p25f
  · rename_i p26a p26b p26c p26d p26e p26f p26g
    subst hA; exact hV.g26 (df p26a) (df p26b) (dt (nf p26c)) (dt (nf p26d)) (nf p26e) p26f (nt p26g)
  · rename_i b0 b1 b2 b3 b4 b5 b6
    have q1 : A = Ar.std → ∀ P, v4A fn a0 a1 a2 a3 P → P := fun hA P h => by subst hA; exact h (df b0) (df b1) (dt (nf b2)) (dt (nf b3)) (nf b4) b5 (nf b6)
    refine Leaf.gen fun σz hσz => ?_
    refine loopBJ hE [15, 17] hinl 6 [] [] [] (fun x : Rows × Int => [.l x.1, .i x.2]) (fun x => I0 x.1 x.2) (fun x => m0 x.1 x.2) ([], 0) (by subst hA; exact q1 rfl _ hV.i0) ?_ ?_ <;> subst hσz
    · clear hE hinl hV; cbv; (try (repeat' (first | exact True.intro | rfl | assumption | apply And.intro)))
    · intro ⟨x0_0, x0_1⟩ hI0 K0 hK0
      cbv
      repeat' (first | (refine Br.mk (fun _ => ?_) (fun _ => ?_) <;> cbv) | (refine NilB.mk (fun _ => ?_) ?_ <;> cbv) | refine And.intro ?_ ?_ | exact True.intro)
      · rename_i p28a
        subst hA; exact q1 rfl _ (hV.g28 _ _ hI0) (dt p28a)
      · rename_i p29a
        subst hA; exact q1 rfl _ (hV.g29 _ _ hI0) (dt p29a)
      · rename_i p30a
        subst hA; exact q1 rfl _ (hV.g30 _ _ hI0) (dt p30a)
      · rename_i p31a
        refine Leaf.gen fun σz hσz => ?_
        refine joinB hE hinl 6 [108] [] [] [] (fun x : Int => [.i x]) (fun x => I1 x0_0 x0_1 x) ?_ ?_ <;> subst hσz
        · intro K1 hK1
          cbv
          repeat' (first | (refine Br.mk (fun _ => ?_) (fun _ => ?_) <;> cbv) | (refine NilB.mk (fun _ => ?_) ?_ <;> cbv) | refine And.intro ?_ ?_ | exact True.intro)
          · rename_i p32a
            subst hA; exact q1 rfl _ (hV.g32 _ _ hI0) (dt p31a) (dt p32a)
          · rename_i p33a
            subst hA; exact q1 rfl _ (hV.g33 _ _ hI0) (dt p31a) (dt p33a)
          · rename_i p34a
            subst hA; exact q1 rfl _ (hV.g34 _ _ hI0) (dt p31a) (dt p34a)
          · rename_i p35a
            subst hA; exact q1 rfl _ (hV.g35 _ _ hI0) (dt p31a) (dt p35a)
          · rename_i p36a
            subst hA; exact q1 rfl _ (hV.g36 _ _ hI0) (dt p31a) (dt p36a)
          · rename_i p37a
            subst hA; exact q1 rfl _ (hV.g37 _ _ hI0) (dt p31a) (dt p37a)
          · rename_i p38a
            subst hA; exact q1 rfl _ (hV.g38 _ _ hI0) (dt p31a) (dt p38a)
          · rename_i p39a
            refine hK1 (A.add (A.di (A.get (A.dl (fn 6 [[D.l a0]] 0 0)) (A.toNat x0_1) 0)) (A.tmod (A.di (A.get a3 (A.toNat (A.tmod x0_1 (A.nat (A.len a3)))) 0)) 9)) _ ?_ ?_
            · subst hA; exact q1 rfl _ (hV.n39 _ _ hI0) (dt p31a) (dt p39a)
            · clear hE hinl hV hK1; cbv; (try (repeat' (first | exact True.intro | rfl | assumption | apply And.intro)))
          · rename_i p40a
            refine hK1 (A.di (A.get (A.dl (fn 6 [[D.l a0]] 0 0)) (A.toNat x0_1) 0)) _ ?_ ?_
            · subst hA; exact q1 rfl _ (hV.n40 _ _ hI0) (dt p31a) (df p40a)
            · clear hE hinl hV hK1; cbv; (try (repeat' (first | exact True.intro | rfl | assumption | apply And.intro)))
        · intro x1_0 hI1
          cbv
          repeat' (first | (refine Br.mk (fun _ => ?_) (fun _ => ?_) <;> cbv) | (refine NilB.mk (fun _ => ?_) ?_ <;> cbv) | refine And.intro ?_ ?_ | exact True.intro)
          · refine Leaf.gen fun σz hσz => ?_
            refine joinB hE hinl 6 [121] [] [] [] (fun x : Int => [.i x]) (fun x => I2 x0_0 x0_1 x1_0 x) ?_ ?_ <;> subst hσz
            · intro K2 hK2
              cbv
              repeat' (first | (refine Br.mk (fun _ => ?_) (fun _ => ?_) <;> cbv) | (refine NilB.mk (fun _ => ?_) ?_ <;> cbv) | refine And.intro ?_ ?_ | exact True.intro)
              · rename_i p42a
                subst hA; exact q1 rfl _ (hV.g42 _ _ hI0 _ hI1) (dt p31a) (dt p42a)
              · rename_i p43a
                subst hA; exact q1 rfl _ (hV.g43 _ _ hI0 _ hI1) (dt p31a) (dt p43a)
              · rename_i p44a
                subst hA; exact q1 rfl _ (hV.g44 _ _ hI0 _ hI1) (dt p31a) (dt p44a)
              · rename_i p45a
                subst hA; exact q1 rfl _ (hV.g45 _ _ hI0 _ hI1) (dt p31a) (dt p45a)
              · rename_i p46a
                refine hK2 (A.max x1_0 (A.di (A.get x0_0 (A.toNat (A.sub x0_1 1)) 0))) _ ?_ ?_
                · subst hA; exact q1 rfl _ (hV.n46 _ _ hI0 _ hI1) (dt p31a) (dt p46a)
                · clear hE hinl hV hK2; cbv; (try (repeat' (first | exact True.intro | rfl | assumption | apply And.intro)))
              · rename_i p47a
                refine hK2 (x1_0) _ ?_ ?_
                · subst hA; exact q1 rfl _ (hV.n47 _ _ hI0 _ hI1) (dt p31a) (df p47a)
                · clear hE hinl hV hK2; cbv; (try (repeat' (first | exact True.intro | rfl | assumption | apply And.intro)))
            · intro x2_0 hI2
              cbv
              repeat' (first | (refine Br.mk (fun _ => ?_) (fun _ => ?_) <;> cbv) | (refine NilB.mk (fun _ => ?_) ?_ <;> cbv) | refine And.intro ?_ ?_ | exact True.intro)
              · subst hA; exact q1 rfl _ (hV.g48 _ _ hI0 _ hI1 _ hI2) (dt p31a)
              · refine Leaf.gen fun σz hσz => ?_
                refine loopBJ hE [15, 17] hinl 6 [] [] [(12, [])] (fun x : Int × Rows => [.i x.1, .l x.2]) (fun x => I3 x0_0 x0_1 x1_0 x2_0 x.1 x.2) (fun x => m3 x0_0 x0_1 x1_0 x2_0 x.1 x.2) (0, A.app x0_0 [[D.i x2_0]]) (by subst hA; exact q1 rfl _ (hV.i3 _ _ hI0 _ hI1 _ hI2) (dt p31a)) ?_ ?_ <;> subst hσz
                · clear hE hinl hV; cbv; (try (repeat' (first | exact True.intro | rfl | assumption | apply And.intro)))
                · intro ⟨x3_0, x3_1⟩ hI3 K3 hK3
                  cbv
                  repeat' (first | (refine Br.mk (fun _ => ?_) (fun _ => ?_) <;> cbv) | (refine NilB.mk (fun _ => ?_) ?_ <;> cbv) | refine And.intro ?_ ?_ | exact True.intro)
                  · rename_i p50a p50b
                    subst hA; exact q1 rfl _ (hV.g50 _ _ hI0 _ hI1 _ hI2 _ _ hI3) (dt p31a) (dt p50a) (dt p50b)
                  · rename_i p51a p51b
                    subst hA; exact q1 rfl _ (hV.g51 _ _ hI0 _ hI1 _ hI2 _ _ hI3) (dt p31a) (dt p51a) (dt p51b)
                  · rename_i p52a p52b
                    subst hA; exact q1 rfl _ (hV.g52 _ _ hI0 _ hI1 _ hI2 _ _ hI3) (dt p31a) (dt p52a) (dt p52b)
                  · rename_i p53a p53b
                    subst hA; exact q1 rfl _ (hV.g53 _ _ hI0 _ hI1 _ hI2 _ _ hI3) (dt p31a) (dt p53a) (dt p53b)
                  · rename_i p54a p54b
                    subst hA; exact q1 rfl _ (hV.g54 _ _ hI0 _ hI1 _ hI2 _ _ hI3) (dt p31a) (dt p54a) (dt p54b)
                  · rename_i p55a p55b
                    subst hA; exact q1 rfl _ (hV.g55 _ _ hI0 _ hI1 _ hI2 _ _ hI3) (dt p31a) (dt p55a) (dt p55b)
                  · rename_i p56a p56b
                    subst hA; exact q1 rfl _ (hV.g55 _ _ hI0 _ hI1 _ hI2 _ _ hI3) (dt p31a) (dt p56a) (dt p56b)
                  · rename_i p57a p57b
                    subst hA; exact q1 rfl _ (hV.g57 _ _ hI0 _ hI1 _ hI2 _ _ hI3) (dt p31a) (dt p57a) (dt p57b)
                  · rename_i p58a p58b
                    subst hA; exact q1 rfl _ (hV.g58 _ _ hI0 _ hI1 _ hI2 _ _ hI3) (dt p31a) (dt p58a) (dt p58b)
                  · rename_i p59a p59b
                    subst hA; exact q1 rfl _ (hV.g59 _ _ hI0 _ hI1 _ hI2 _ _ hI3) (dt p31a) (dt p59a) (dt p59b)
                  · rename_i p60a p60b
                    subst hA; exact q1 rfl _ (hV.g59 _ _ hI0 _ hI1 _ hI2 _ _ hI3) (dt p31a) (dt p60a) (dt p60b)
                  · rename_i p61a p61b
                    subst hA; exact q1 rfl _ (hV.g61 _ _ hI0 _ hI1 _ hI2 _ _ hI3) (dt p31a) (dt p61a) (dt p61b)
                  · rename_i p62a p62b
                    subst hA; exact q1 rfl _ (hV.g62 _ _ hI0 _ hI1 _ hI2 _ _ hI3) (dt p31a) (dt p62a) (dt p62b)
                  · rename_i p63a p63b
                    subst hA; exact q1 rfl _ (hV.g63 _ _ hI0 _ hI1 _ hI2 _ _ hI3) (dt p31a) (dt p63a) (dt p63b)
                  · rename_i p64a p64b
                    subst hA; exact q1 rfl _ (hV.g64 _ _ hI0 _ hI1 _ hI2 _ _ hI3) (dt p31a) (dt p64a) (dt p64b)
                  · rename_i p65a p65b p65c
                    subst hA; exact q1 rfl _ (hV.g65 _ _ hI0 _ hI1 _ hI2 _ _ hI3) (dt p31a) (dt p65a) (dt p65b) (dt p65c)
                  · rename_i p66a p66b p66c
                    subst hA; exact q1 rfl _ (hV.g66 _ _ hI0 _ hI1 _ hI2 _ _ hI3) (dt p31a) (dt p66a) (dt p66b) (dt p66c)
                  · rename_i p67a p67b p67c
                    subst hA; exact q1 rfl _ (hV.g67 _ _ hI0 _ hI1 _ hI2 _ _ hI3) (dt p31a) (dt p67a) (dt p67b) (dt p67c)
                  · rename_i p68a p68b p68c
                    subst hA; exact q1 rfl _ (hV.g67 _ _ hI0 _ hI1 _ hI2 _ _ hI3) (dt p31a) (dt p68a) (dt p68b) (dt p68c)
                  · rename_i p69a p69b p69c
                    subst hA; exact q1 rfl _ (hV.g69 _ _ hI0 _ hI1 _ hI2 _ _ hI3) (dt p31a) (dt p69a) (dt p69b) (dt p69c)
                  · rename_i p70a p70b p70c
                    subst hA; exact q1 rfl _ (hV.g70 _ _ hI0 _ hI1 _ hI2 _ _ hI3) (dt p31a) (dt p70a) (dt p70b) (dt p70c)
                  · rename_i p71a p71b p71c
                    subst hA; exact q1 rfl _ (hV.g71 _ _ hI0 _ hI1 _ hI2 _ _ hI3) (dt p31a) (dt p71a) (dt p71b) (dt p71c)
                  · rename_i p72a p72b p72c
                    subst hA; exact q1 rfl _ (hV.g72 _ _ hI0 _ hI1 _ hI2 _ _ hI3) (dt p31a) (dt p72a) (dt p72b) (dt p72c)
                  · rename_i p73a p73b p73c
                    subst hA; exact q1 rfl _ (hV.g73 _ _ hI0 _ hI1 _ hI2 _ _ hI3) (dt p31a) (dt p73a) (dt p73b) (dt p73c)
                  · rename_i p74a p74b p74c
                    subst hA; exact q1 rfl _ (hV.g74 _ _ hI0 _ hI1 _ hI2 _ _ hI3) (dt p31a) (dt p74a) (dt p74b) (dt p74c)
                  · rename_i p75a p75b p75c
                    subst hA; exact q1 rfl _ (hV.g75 _ _ hI0 _ hI1 _ hI2 _ _ hI3) (dt p31a) (dt p75a) (dt p75b) (dt p75c)
                  · rename_i p76a p76b p76c
                    subst hA; exact q1 rfl _ (hV.g76 _ _ hI0 _ hI1 _ hI2 _ _ hI3) (dt p31a) (dt p76a) (dt p76b) (dt p76c)
                  · rename_i p77a p77b p77c
                    subst hA; exact q1 rfl _ (hV.g77 _ _ hI0 _ hI1 _ hI2 _ _ hI3) (dt p31a) (dt p77a) (dt p77b) (dt p77c)
                  · rename_i p78a p78b p78c
                    subst hA; exact q1 rfl _ (hV.g78 _ _ hI0 _ hI1 _ hI2 _ _ hI3) (dt p31a) (dt p78a) (dt p78b) (dt p78c)
                  · rename_i p79a p79b p79c
                    subst hA; exact q1 rfl _ (hV.g79 _ _ hI0 _ hI1 _ hI2 _ _ hI3) (dt p31a) (dt p79a) (dt p79b) (dt p79c)
                  · rename_i p80a p80b p80c
                    subst hA; exact q1 rfl _ (hV.g80 _ _ hI0 _ hI1 _ hI2 _ _ hI3) (dt p31a) (dt p80a) (dt p80b) (dt p80c)
                  · rename_i p81a p81b p81c
                    subst hA; exact q1 rfl _ (hV.g81 _ _ hI0 _ hI1 _ hI2 _ _ hI3) (dt p31a) (dt p81a) (dt p81b) (dt p81c)
                  · rename_i p82a p82b p82c
                    subst hA; exact q1 rfl _ (hV.g82 _ _ hI0 _ hI1 _ hI2 _ _ hI3) (dt p31a) (dt p82a) (dt p82b) (dt p82c)
                  · rename_i p83a p83b p83c
                    refine hK3 (A.add x3_0 1, A.set x3_1 (A.toNat x0_1) [D.i (A.add (A.sub (A.di (A.get x3_1 (A.toNat x3_0) 0)) 1) (A.tdiv (A.sub (A.add (A.sub (A.mul 1024 (A.add (A.sub x0_1 x3_0) 1)) (A.di (fn 9 [[D.i (A.tmod a1 8192)], [D.i (A.tmod a2 1025)]] 0 0))) (A.di (fn 9 [[D.i (A.tmod a1 8192)], [D.i (A.tmod a2 1025)]] 0 1))) 1) (A.di (fn 9 [[D.i (A.tmod a1 8192)], [D.i (A.tmod a2 1025)]] 0 1))))]) _ ?_ ?_ ?_
                    · subst hA; exact (q1 rfl _ (hV.n83 _ _ hI0 _ hI1 _ hI2 _ _ hI3) (dt p31a) (dt p83a) (dt p83b) (dt p83c)).1
                    · subst hA; exact (q1 rfl _ (hV.n83 _ _ hI0 _ hI1 _ hI2 _ _ hI3) (dt p31a) (dt p83a) (dt p83b) (dt p83c)).2
                    · clear hE hinl hV hK3; cbv; (try (repeat' (first | exact True.intro | rfl | assumption | apply And.intro)))
                  · rename_i p84a p84b p84c
                    subst hA; exact q1 rfl _ (hV.g84 _ _ hI0 _ hI1 _ hI2 _ _ hI3) (dt p31a) (dt p84a) (dt p84b) (df p84c)
                  · rename_i p85a p85b p85c
                    refine hK3 (A.add x3_0 1, x3_1) _ ?_ ?_ ?_
                    · subst hA; exact (q1 rfl _ (hV.n85 _ _ hI0 _ hI1 _ hI2 _ _ hI3) (dt p31a) (dt p85a) (dt p85b) (df p85c)).1
                    · subst hA; exact (q1 rfl _ (hV.n85 _ _ hI0 _ hI1 _ hI2 _ _ hI3) (dt p31a) (dt p85a) (dt p85b) (df p85c)).2
                    · clear hE hinl hV hK3; cbv; (try (repeat' (first | exact True.intro | rfl | assumption | apply And.intro)))
                  · rename_i p86a p86b
                    subst hA; exact q1 rfl _ (hV.g86 _ _ hI0 _ hI1 _ hI2 _ _ hI3) (dt p31a) (dt p86a) (df p86b)
                  · rename_i p87a p87b
                    refine hK3 (A.add x3_0 1, x3_1) _ ?_ ?_ ?_
                    · subst hA; exact (q1 rfl _ (hV.n87 _ _ hI0 _ hI1 _ hI2 _ _ hI3) (dt p31a) (dt p87a) (df p87b)).1
                    · subst hA; exact (q1 rfl _ (hV.n87 _ _ hI0 _ hI1 _ hI2 _ _ hI3) (dt p31a) (dt p87a) (df p87b)).2
                    · clear hE hinl hV hK3; cbv; (try (repeat' (first | exact True.intro | rfl | assumption | apply And.intro)))
                  · rename_i p88a
                    subst hA; exact q1 rfl _ (hV.g88 _ _ hI0 _ hI1 _ hI2 _ _ hI3) (dt p31a) (df p88a)
                  · rename_i p89a
                    refine hK0 (x3_1, A.add x0_1 1) _ ?_ ?_ ?_
                    · subst hA; exact (q1 rfl _ (hV.n89 _ _ hI0 _ hI1 _ hI2 _ _ hI3) (dt p31a) (df p89a)).1
                    · subst hA; exact (q1 rfl _ (hV.n89 _ _ hI0 _ hI1 _ hI2 _ _ hI3) (dt p31a) (df p89a)).2
                    · clear hE hinl hV hK0; cbv; (try (repeat' (first | exact True.intro | rfl | assumption | apply And.intro)))
      · rename_i p90a
        refine Leaf.gen fun σz hσz => ?_
        refine loopBJ hE [15, 17] hinl 6 [] [] [] (fun x : Bool × Int => [.b x.1, .i x.2]) (fun x => I4 x0_0 x0_1 x.1 x.2) (fun x => m4 x0_0 x0_1 x.1 x.2) (false, 0) (by subst hA; exact q1 rfl _ (hV.i4 _ _ hI0) (df p90a)) ?_ ?_ <;> subst hσz
        · clear hE hinl hV; cbv; (try (repeat' (first | exact True.intro | rfl | assumption | apply And.intro)))
        · intro ⟨x4_0, x4_1⟩ hI4 K4 hK4
          cbv
          repeat' (first | (refine Br.mk (fun _ => ?_) (fun _ => ?_) <;> cbv) | (refine NilB.mk (fun _ => ?_) ?_ <;> cbv) | refine And.intro ?_ ?_ | exact True.intro)
          · rename_i p91a
            subst hA; exact q1 rfl _ (hV.g91 _ _ hI0 _ _ hI4) (df p90a) (dt p91a)
          · rename_i p92a
            subst hA; exact q1 rfl _ (hV.g92 _ _ hI0 _ _ hI4) (df p90a) (dt p92a)
          · rename_i p93a
            subst hA; exact q1 rfl _ (hV.g93 _ _ hI0 _ _ hI4) (df p90a) (dt p93a)
          · rename_i p94a
            subst hA; exact q1 rfl _ (hV.g91 _ _ hI0 _ _ hI4) (df p90a) (dt p94a)
          · rename_i p95a
            subst hA; exact q1 rfl _ (hV.g95 _ _ hI0 _ _ hI4) (df p90a) (dt p95a)
          · rename_i p96a
            subst hA; exact q1 rfl _ (hV.g96 _ _ hI0 _ _ hI4) (df p90a) (dt p96a)
          · rename_i p97a p97b
            subst hA; exact q1 rfl _ (hV.g97 _ _ hI0 _ _ hI4) (df p90a) (dt p97a) (dt p97b)
          · rename_i p98a p98b p98c
            subst hA; exact q1 rfl _ (hV.g98 _ _ hI0 _ _ hI4) (df p90a) (dt p98a) (df p98b) (dt p98c)
          · rename_i p99a p99b p99c
            subst hA; exact q1 rfl _ (hV.g99 _ _ hI0 _ _ hI4) (df p90a) (dt p99a) (df p99b) (dt p99c)
          · rename_i p100a p100b p100c
            subst hA; exact q1 rfl _ (hV.g100 _ _ hI0 _ _ hI4) (df p90a) (dt p100a) (df p100b) (dt p100c)
          · rename_i p101a p101b p101c
            subst hA; exact q1 rfl _ (hV.g101 _ _ hI0 _ _ hI4) (df p90a) (dt p101a) (df p101b) (dt p101c)
          · rename_i p102a p102b p102c
            subst hA; exact q1 rfl _ (hV.g102 _ _ hI0 _ _ hI4) (df p90a) (dt p102a) (df p102b) (dt p102c)
          · rename_i p103a p103b p103c
            subst hA; exact q1 rfl _ (hV.g103 _ _ hI0 _ _ hI4) (df p90a) (dt p103a) (df p103b) (dt p103c)
          · rename_i p104a p104b p104c
            subst hA; exact q1 rfl _ (hV.g104 _ _ hI0 _ _ hI4) (df p90a) (dt p104a) (df p104b) (dt p104c)
          · rename_i p105a p105b p105c p105d
            subst hA; exact q1 rfl _ (hV.g105 _ _ hI0 _ _ hI4) (df p90a) (dt p105a) (df p105b) (dt p105c) (dt p105d)
          · rename_i p106a p106b p106c p106d
            subst hA; exact q1 rfl _ (hV.g106 _ _ hI0 _ _ hI4) (df p90a) (dt p106a) (df p106b) (dt p106c) (df p106d)
          · rename_i p107a p107b p107c p107d p107e
            subst hA; exact q1 rfl _ (hV.g107 _ _ hI0 _ _ hI4) (df p90a) (dt p107a) (df p107b) (dt p107c) (df p107d) p107e
          · rename_i p108a p108b p108c p108d p108e
            subst hA; exact q1 rfl _ (hV.g108 _ _ hI0 _ _ hI4) (df p90a) (dt p108a) (df p108b) (dt p108c) (df p108d) p108e
          · rename_i p109a p109b p109c p109d p109e
            subst hA; exact q1 rfl _ (hV.g109 _ _ hI0 _ _ hI4) (df p90a) (dt p109a) (df p109b) (dt p109c) (df p109d) p109e
          · rename_i p110a p110b p110c p110d p110e
            subst hA; exact q1 rfl _ (hV.g109 _ _ hI0 _ _ hI4) (df p90a) (dt p110a) (df p110b) (dt p110c) (df p110d) p110e
          · rename_i p111a p111b p111c p111d p111e
            subst hA; exact q1 rfl _ (hV.g107 _ _ hI0 _ _ hI4) (df p90a) (dt p111a) (df p111b) (dt p111c) (df p111d) p111e
          · rename_i p112a p112b p112c p112d p112e
            subst hA; exact q1 rfl _ (hV.g112 _ _ hI0 _ _ hI4) (df p90a) (dt p112a) (df p112b) (dt p112c) (df p112d) p112e
          · rename_i p113a p113b p113c p113d p113e
            subst hA; exact q1 rfl _ (hV.g113 _ _ hI0 _ _ hI4) (df p90a) (dt p113a) (df p113b) (dt p113c) (df p113d) p113e
          · rename_i p114a p114b p114c p114d p114e p114f
            subst hA; exact q1 rfl _ (hV.g114 _ _ hI0 _ _ hI4) (df p90a) (dt p114a) (df p114b) (dt p114c) (df p114d) p114e (dt p114f)
          · rename_i p115a p115b p115c p115d p115e p115f
            subst hA; exact q1 rfl _ (hV.g115 _ _ hI0 _ _ hI4) (df p90a) (dt p115a) (df p115b) (dt p115c) (df p115d) p115e (df p115f)
          · rename_i p116a p116b p116c p116d p116e p116f
            refine hK4 (x4_0, A.add x4_1 1) _ ?_ ?_ ?_
            · subst hA; exact (q1 rfl _ (hV.n116 _ _ hI0 _ _ hI4) (df p90a) (dt p116a) (df p116b) (dt p116c) (df p116d) p116e (df p116f)).1
            · subst hA; exact (q1 rfl _ (hV.n116 _ _ hI0 _ _ hI4) (df p90a) (dt p116a) (df p116b) (dt p116c) (df p116d) p116e (df p116f)).2
            · clear hE hinl hV hK4; cbv; (try (repeat' (first | exact True.intro | rfl | assumption | apply And.intro)))
          · rename_i p117a p117b p117c p117d p117e
            subst hA; exact q1 rfl _ (hV.g117 _ _ hI0 _ _ hI4) (df p90a) (dt p117a) (df p117b) (dt p117c) (df p117d) p117e
          · rename_i p118a p118b p118c p118d p118e
            refine hK4 (x4_0, A.add x4_1 1) _ ?_ ?_ ?_
            · subst hA; exact (q1 rfl _ (hV.n118 _ _ hI0 _ _ hI4) (df p90a) (dt p118a) (df p118b) (dt p118c) (df p118d) p118e).1
            · subst hA; exact (q1 rfl _ (hV.n118 _ _ hI0 _ _ hI4) (df p90a) (dt p118a) (df p118b) (dt p118c) (df p118d) p118e).2
            · clear hE hinl hV hK4; cbv; (try (repeat' (first | exact True.intro | rfl | assumption | apply And.intro)))
          · rename_i p119a p119b p119c
            subst hA; exact q1 rfl _ (hV.g119 _ _ hI0 _ _ hI4) (df p90a) (dt p119a) (df p119b) (df p119c)
          · rename_i p120a p120b p120c p120d
            subst hA; exact q1 rfl _ (hV.g120 _ _ hI0 _ _ hI4) (df p90a) (dt p120a) (df p120b) (df p120c) p120d
          · rename_i p121a p121b p121c p121d
            subst hA; exact q1 rfl _ (hV.g121 _ _ hI0 _ _ hI4) (df p90a) (dt p121a) (df p121b) (df p121c) p121d
          · rename_i p122a p122b p122c p122d
            subst hA; exact q1 rfl _ (hV.g122 _ _ hI0 _ _ hI4) (df p90a) (dt p122a) (df p122b) (df p122c) p122d
          · rename_i p123a p123b p123c p123d
            subst hA; exact q1 rfl _ (hV.g122 _ _ hI0 _ _ hI4) (df p90a) (dt p123a) (df p123b) (df p123c) p123d
          · rename_i p124a p124b p124c p124d
            subst hA; exact q1 rfl _ (hV.g120 _ _ hI0 _ _ hI4) (df p90a) (dt p124a) (df p124b) (df p124c) p124d
          · rename_i p125a p125b p125c p125d
            subst hA; exact q1 rfl _ (hV.g125 _ _ hI0 _ _ hI4) (df p90a) (dt p125a) (df p125b) (df p125c) p125d
          · rename_i p126a p126b p126c p126d
            subst hA; exact q1 rfl _ (hV.g126 _ _ hI0 _ _ hI4) (df p90a) (dt p126a) (df p126b) (df p126c) p126d
          · rename_i p127a p127b p127c p127d p127e
            subst hA; exact q1 rfl _ (hV.g127 _ _ hI0 _ _ hI4) (df p90a) (dt p127a) (df p127b) (df p127c) p127d (dt p127e)
          · rename_i p128a p128b p128c p128d p128e
            subst hA; exact q1 rfl _ (hV.g128 _ _ hI0 _ _ hI4) (df p90a) (dt p128a) (df p128b) (df p128c) p128d (df p128e)
          · rename_i p129a p129b p129c p129d p129e
            refine hK4 (x4_0, A.add x4_1 1) _ ?_ ?_ ?_
            · subst hA; exact (q1 rfl _ (hV.n129 _ _ hI0 _ _ hI4) (df p90a) (dt p129a) (df p129b) (df p129c) p129d (df p129e)).1
            · subst hA; exact (q1 rfl _ (hV.n129 _ _ hI0 _ _ hI4) (df p90a) (dt p129a) (df p129b) (df p129c) p129d (df p129e)).2
            · clear hE hinl hV hK4; cbv; (try (repeat' (first | exact True.intro | rfl | assumption | apply And.intro)))
          · rename_i p130a p130b p130c p130d
            subst hA; exact q1 rfl _ (hV.g130 _ _ hI0 _ _ hI4) (df p90a) (dt p130a) (df p130b) (df p130c) p130d
          · rename_i p131a p131b p131c p131d
            refine hK4 (x4_0, A.add x4_1 1) _ ?_ ?_ ?_
            · subst hA; exact (q1 rfl _ (hV.n131 _ _ hI0 _ _ hI4) (df p90a) (dt p131a) (df p131b) (df p131c) p131d).1
            · subst hA; exact (q1 rfl _ (hV.n131 _ _ hI0 _ _ hI4) (df p90a) (dt p131a) (df p131b) (df p131c) p131d).2
            · clear hE hinl hV hK4; cbv; (try (repeat' (first | exact True.intro | rfl | assumption | apply And.intro)))
          · rename_i p132a
            subst hA; exact q1 rfl _ (hV.g132 _ _ hI0 _ _ hI4) (df p90a) (df p132a)
          · rename_i p133a
            subst hA; exact q1 rfl _ (hV.g133 _ _ hI0 _ _ hI4) (df p90a) (df p133a)
  · rename_i c0 c1 c2 c3 c4 c5
    have q2 : A = Ar.std → ∀ P, v4B fn a0 a1 a2 a3 P → P := fun hA P h => by subst hA; exact h (df c0) (df c1) (dt (nf c2)) (dt (nf c3)) (nf c4) c5
    refine Leaf.gen fun σz hσz => ?_
    refine loopBJ hE [15, 17] hinl 6 [] [] [] (fun x : Rows × Int => [.l x.1, .i x.2]) (fun x => I5 x.1 x.2) (fun x => m5 x.1 x.2) ([], 0) (by subst hA; exact q2 rfl _ hV.i5) ?_ ?_ <;> subst hσz
    · clear hE hinl hV; cbv; (try (repeat' (first | exact True.intro | rfl | assumption | apply And.intro)))
    · intro ⟨x5_0, x5_1⟩ hI5 K5 hK5
      cbv
      repeat' (first | (refine Br.mk (fun _ => ?_) (fun _ => ?_) <;> cbv) | (refine NilB.mk (fun _ => ?_) ?_ <;> cbv) | refine And.intro ?_ ?_ | exact True.intro)
      · rename_i p135a
        subst hA; exact q2 rfl _ (hV.g135 _ _ hI5) (dt p135a)
      · rename_i p136a
        subst hA; exact q2 rfl _ (hV.g136 _ _ hI5) (dt p136a)
      · rename_i p137a
        subst hA; exact q2 rfl _ (hV.g137 _ _ hI5) (dt p137a)
      · rename_i p138a
        refine Leaf.gen fun σz hσz => ?_
        refine joinB hE hinl 6 [108] [] [] [] (fun x : Int => [.i x]) (fun x => I6 x5_0 x5_1 x) ?_ ?_ <;> subst hσz
        · intro K6 hK6
          cbv
          repeat' (first | (refine Br.mk (fun _ => ?_) (fun _ => ?_) <;> cbv) | (refine NilB.mk (fun _ => ?_) ?_ <;> cbv) | refine And.intro ?_ ?_ | exact True.intro)
          · rename_i p139a
            subst hA; exact q2 rfl _ (hV.g139 _ _ hI5) (dt p138a) (dt p139a)
          · rename_i p140a
            subst hA; exact q2 rfl _ (hV.g140 _ _ hI5) (dt p138a) (dt p140a)
          · rename_i p141a
            subst hA; exact q2 rfl _ (hV.g141 _ _ hI5) (dt p138a) (dt p141a)
          · rename_i p142a
            subst hA; exact q2 rfl _ (hV.g142 _ _ hI5) (dt p138a) (dt p142a)
          · rename_i p143a
            subst hA; exact q2 rfl _ (hV.g143 _ _ hI5) (dt p138a) (dt p143a)
          · rename_i p144a
            subst hA; exact q2 rfl _ (hV.g144 _ _ hI5) (dt p138a) (dt p144a)
          · rename_i p145a
            subst hA; exact q2 rfl _ (hV.g145 _ _ hI5) (dt p138a) (dt p145a)
          · rename_i p146a
            refine hK6 (A.add (A.di (A.get (A.dl (fn 6 [[D.l a0]] 0 0)) (A.toNat x5_1) 0)) (A.tmod (A.di (A.get a3 (A.toNat (A.tmod x5_1 (A.nat (A.len a3)))) 0)) 9)) _ ?_ ?_
            · subst hA; exact q2 rfl _ (hV.n146 _ _ hI5) (dt p138a) (dt p146a)
            · clear hE hinl hV hK6; cbv; (try (repeat' (first | exact True.intro | rfl | assumption | apply And.intro)))
          · rename_i p147a
            refine hK6 (A.di (A.get (A.dl (fn 6 [[D.l a0]] 0 0)) (A.toNat x5_1) 0)) _ ?_ ?_
            · subst hA; exact q2 rfl _ (hV.n147 _ _ hI5) (dt p138a) (df p147a)
            · clear hE hinl hV hK6; cbv; (try (repeat' (first | exact True.intro | rfl | assumption | apply And.intro)))
        · intro x6_0 hI6
          cbv
          repeat' (first | (refine Br.mk (fun _ => ?_) (fun _ => ?_) <;> cbv) | (refine NilB.mk (fun _ => ?_) ?_ <;> cbv) | refine And.intro ?_ ?_ | exact True.intro)
          · refine Leaf.gen fun σz hσz => ?_
            refine joinB hE hinl 6 [121] [] [] [] (fun x : Int => [.i x]) (fun x => I7 x5_0 x5_1 x6_0 x) ?_ ?_ <;> subst hσz
            · intro K7 hK7
              cbv
              repeat' (first | (refine Br.mk (fun _ => ?_) (fun _ => ?_) <;> cbv) | (refine NilB.mk (fun _ => ?_) ?_ <;> cbv) | refine And.intro ?_ ?_ | exact True.intro)
              · rename_i p149a
                subst hA; exact q2 rfl _ (hV.g149 _ _ hI5 _ hI6) (dt p138a) (dt p149a)
              · rename_i p150a
                subst hA; exact q2 rfl _ (hV.g150 _ _ hI5 _ hI6) (dt p138a) (dt p150a)
              · rename_i p151a
                subst hA; exact q2 rfl _ (hV.g151 _ _ hI5 _ hI6) (dt p138a) (dt p151a)
              · rename_i p152a
                subst hA; exact q2 rfl _ (hV.g152 _ _ hI5 _ hI6) (dt p138a) (dt p152a)
              · rename_i p153a
                refine hK7 (A.max x6_0 (A.di (A.get x5_0 (A.toNat (A.sub x5_1 1)) 0))) _ ?_ ?_
                · subst hA; exact q2 rfl _ (hV.n153 _ _ hI5 _ hI6) (dt p138a) (dt p153a)
                · clear hE hinl hV hK7; cbv; (try (repeat' (first | exact True.intro | rfl | assumption | apply And.intro)))
              · rename_i p154a
                refine hK7 (x6_0) _ ?_ ?_
                · subst hA; exact q2 rfl _ (hV.n154 _ _ hI5 _ hI6) (dt p138a) (df p154a)
                · clear hE hinl hV hK7; cbv; (try (repeat' (first | exact True.intro | rfl | assumption | apply And.intro)))
            · intro x7_0 hI7
              cbv
              repeat' (first | (refine Br.mk (fun _ => ?_) (fun _ => ?_) <;> cbv) | (refine NilB.mk (fun _ => ?_) ?_ <;> cbv) | refine And.intro ?_ ?_ | exact True.intro)
              · subst hA; exact q2 rfl _ (hV.g155 _ _ hI5 _ hI6 _ hI7) (dt p138a)
              · refine Leaf.gen fun σz hσz => ?_
                refine loopBJ hE [15, 17] hinl 6 [] [] [(11, [])] (fun x : Int × Rows => [.i x.1, .l x.2]) (fun x => I8 x5_0 x5_1 x6_0 x7_0 x.1 x.2) (fun x => m8 x5_0 x5_1 x6_0 x7_0 x.1 x.2) (0, A.app x5_0 [[D.i x7_0]]) (by subst hA; exact q2 rfl _ (hV.i8 _ _ hI5 _ hI6 _ hI7) (dt p138a)) ?_ ?_ <;> subst hσz
                · clear hE hinl hV; cbv; (try (repeat' (first | exact True.intro | rfl | assumption | apply And.intro)))
                · intro ⟨x8_0, x8_1⟩ hI8 K8 hK8
                  cbv
                  repeat' (first | (refine Br.mk (fun _ => ?_) (fun _ => ?_) <;> cbv) | (refine NilB.mk (fun _ => ?_) ?_ <;> cbv) | refine And.intro ?_ ?_ | exact True.intro)
                  · rename_i p157a p157b
                    subst hA; exact q2 rfl _ (hV.g157 _ _ hI5 _ hI6 _ hI7 _ _ hI8) (dt p138a) (dt p157a) (dt p157b)
                  · rename_i p158a p158b
                    subst hA; exact q2 rfl _ (hV.g158 _ _ hI5 _ hI6 _ hI7 _ _ hI8) (dt p138a) (dt p158a) (dt p158b)
                  · rename_i p159a p159b
                    subst hA; exact q2 rfl _ (hV.g159 _ _ hI5 _ hI6 _ hI7 _ _ hI8) (dt p138a) (dt p159a) (dt p159b)
                  · rename_i p160a p160b
                    subst hA; exact q2 rfl _ (hV.g160 _ _ hI5 _ hI6 _ hI7 _ _ hI8) (dt p138a) (dt p160a) (dt p160b)
                  · rename_i p161a p161b
                    subst hA; exact q2 rfl _ (hV.g161 _ _ hI5 _ hI6 _ hI7 _ _ hI8) (dt p138a) (dt p161a) (dt p161b)
                  · rename_i p162a p162b
                    subst hA; exact q2 rfl _ (hV.g162 _ _ hI5 _ hI6 _ hI7 _ _ hI8) (dt p138a) (dt p162a) (dt p162b)
                  · rename_i p163a p163b
                    subst hA; exact q2 rfl _ (hV.g162 _ _ hI5 _ hI6 _ hI7 _ _ hI8) (dt p138a) (dt p163a) (dt p163b)
                  · rename_i p164a p164b
                    subst hA; exact q2 rfl _ (hV.g164 _ _ hI5 _ hI6 _ hI7 _ _ hI8) (dt p138a) (dt p164a) (dt p164b)
                  · rename_i p165a p165b
                    subst hA; exact q2 rfl _ (hV.g165 _ _ hI5 _ hI6 _ hI7 _ _ hI8) (dt p138a) (dt p165a) (dt p165b)
                  · rename_i p166a p166b
                    subst hA; exact q2 rfl _ (hV.g166 _ _ hI5 _ hI6 _ hI7 _ _ hI8) (dt p138a) (dt p166a) (dt p166b)
                  · rename_i p167a p167b
                    subst hA; exact q2 rfl _ (hV.g166 _ _ hI5 _ hI6 _ hI7 _ _ hI8) (dt p138a) (dt p167a) (dt p167b)
                  · rename_i p168a p168b
                    subst hA; exact q2 rfl _ (hV.g168 _ _ hI5 _ hI6 _ hI7 _ _ hI8) (dt p138a) (dt p168a) (dt p168b)
                  · rename_i p169a p169b
                    subst hA; exact q2 rfl _ (hV.g169 _ _ hI5 _ hI6 _ hI7 _ _ hI8) (dt p138a) (dt p169a) (dt p169b)
                  · rename_i p170a p170b
                    subst hA; exact q2 rfl _ (hV.g170 _ _ hI5 _ hI6 _ hI7 _ _ hI8) (dt p138a) (dt p170a) (dt p170b)
                  · rename_i p171a p171b
                    subst hA; exact q2 rfl _ (hV.g171 _ _ hI5 _ hI6 _ hI7 _ _ hI8) (dt p138a) (dt p171a) (dt p171b)
                  · rename_i p172a p172b p172c
                    subst hA; exact q2 rfl _ (hV.g172 _ _ hI5 _ hI6 _ hI7 _ _ hI8) (dt p138a) (dt p172a) (dt p172b) (dt p172c)
                  · rename_i p173a p173b p173c
                    subst hA; exact q2 rfl _ (hV.g173 _ _ hI5 _ hI6 _ hI7 _ _ hI8) (dt p138a) (dt p173a) (dt p173b) (dt p173c)
                  · rename_i p174a p174b p174c
                    subst hA; exact q2 rfl _ (hV.g174 _ _ hI5 _ hI6 _ hI7 _ _ hI8) (dt p138a) (dt p174a) (dt p174b) (dt p174c)
                  · rename_i p175a p175b p175c
                    subst hA; exact q2 rfl _ (hV.g174 _ _ hI5 _ hI6 _ hI7 _ _ hI8) (dt p138a) (dt p175a) (dt p175b) (dt p175c)
                  · rename_i p176a p176b p176c
                    subst hA; exact q2 rfl _ (hV.g176 _ _ hI5 _ hI6 _ hI7 _ _ hI8) (dt p138a) (dt p176a) (dt p176b) (dt p176c)
                  · rename_i p177a p177b p177c
                    subst hA; exact q2 rfl _ (hV.g177 _ _ hI5 _ hI6 _ hI7 _ _ hI8) (dt p138a) (dt p177a) (dt p177b) (dt p177c)
                  · rename_i p178a p178b p178c
                    subst hA; exact q2 rfl _ (hV.g178 _ _ hI5 _ hI6 _ hI7 _ _ hI8) (dt p138a) (dt p178a) (dt p178b) (dt p178c)
                  · rename_i p179a p179b p179c
                    subst hA; exact q2 rfl _ (hV.g179 _ _ hI5 _ hI6 _ hI7 _ _ hI8) (dt p138a) (dt p179a) (dt p179b) (dt p179c)
                  · rename_i p180a p180b p180c
                    subst hA; exact q2 rfl _ (hV.g180 _ _ hI5 _ hI6 _ hI7 _ _ hI8) (dt p138a) (dt p180a) (dt p180b) (dt p180c)
                  · rename_i p181a p181b p181c
                    subst hA; exact q2 rfl _ (hV.g181 _ _ hI5 _ hI6 _ hI7 _ _ hI8) (dt p138a) (dt p181a) (dt p181b) (dt p181c)
                  · rename_i p182a p182b p182c
                    subst hA; exact q2 rfl _ (hV.g182 _ _ hI5 _ hI6 _ hI7 _ _ hI8) (dt p138a) (dt p182a) (dt p182b) (dt p182c)
                  · rename_i p183a p183b p183c
                    subst hA; exact q2 rfl _ (hV.g183 _ _ hI5 _ hI6 _ hI7 _ _ hI8) (dt p138a) (dt p183a) (dt p183b) (dt p183c)
                  · rename_i p184a p184b p184c
                    subst hA; exact q2 rfl _ (hV.g184 _ _ hI5 _ hI6 _ hI7 _ _ hI8) (dt p138a) (dt p184a) (dt p184b) (dt p184c)
                  · rename_i p185a p185b p185c
                    subst hA; exact q2 rfl _ (hV.g185 _ _ hI5 _ hI6 _ hI7 _ _ hI8) (dt p138a) (dt p185a) (dt p185b) (dt p185c)
                  · rename_i p186a p186b p186c
                    subst hA; exact q2 rfl _ (hV.g186 _ _ hI5 _ hI6 _ hI7 _ _ hI8) (dt p138a) (dt p186a) (dt p186b) (dt p186c)
                  · rename_i p187a p187b p187c
                    subst hA; exact q2 rfl _ (hV.g187 _ _ hI5 _ hI6 _ hI7 _ _ hI8) (dt p138a) (dt p187a) (dt p187b) (dt p187c)
                  · rename_i p188a p188b p188c
                    subst hA; exact q2 rfl _ (hV.g188 _ _ hI5 _ hI6 _ hI7 _ _ hI8) (dt p138a) (dt p188a) (dt p188b) (dt p188c)
                  · rename_i p189a p189b p189c
                    subst hA; exact q2 rfl _ (hV.g189 _ _ hI5 _ hI6 _ hI7 _ _ hI8) (dt p138a) (dt p189a) (dt p189b) (dt p189c)
                  · rename_i p190a p190b p190c
                    refine hK8 (A.add x8_0 1, A.set x8_1 (A.toNat x5_1) [D.i (A.add (A.sub (A.di (A.get x8_1 (A.toNat x8_0) 0)) 1) (A.tdiv (A.sub (A.add (A.sub (A.mul 1024 (A.add (A.sub x5_1 x8_0) 1)) (A.di (fn 9 [[D.i (A.tmod a1 8192)], [D.i (A.tmod a2 1025)]] 0 0))) (A.di (fn 9 [[D.i (A.tmod a1 8192)], [D.i (A.tmod a2 1025)]] 0 1))) 1) (A.di (fn 9 [[D.i (A.tmod a1 8192)], [D.i (A.tmod a2 1025)]] 0 1))))]) _ ?_ ?_ ?_
                    · subst hA; exact (q2 rfl _ (hV.n190 _ _ hI5 _ hI6 _ hI7 _ _ hI8) (dt p138a) (dt p190a) (dt p190b) (dt p190c)).1
                    · subst hA; exact (q2 rfl _ (hV.n190 _ _ hI5 _ hI6 _ hI7 _ _ hI8) (dt p138a) (dt p190a) (dt p190b) (dt p190c)).2
                    · clear hE hinl hV hK8; cbv; (try (repeat' (first | exact True.intro | rfl | assumption | apply And.intro)))
                  · rename_i p191a p191b p191c
                    subst hA; exact q2 rfl _ (hV.g191 _ _ hI5 _ hI6 _ hI7 _ _ hI8) (dt p138a) (dt p191a) (dt p191b) (df p191c)
                  · rename_i p192a p192b p192c
                    refine hK8 (A.add x8_0 1, x8_1) _ ?_ ?_ ?_
                    · subst hA; exact (q2 rfl _ (hV.n192 _ _ hI5 _ hI6 _ hI7 _ _ hI8) (dt p138a) (dt p192a) (dt p192b) (df p192c)).1
                    · subst hA; exact (q2 rfl _ (hV.n192 _ _ hI5 _ hI6 _ hI7 _ _ hI8) (dt p138a) (dt p192a) (dt p192b) (df p192c)).2
                    · clear hE hinl hV hK8; cbv; (try (repeat' (first | exact True.intro | rfl | assumption | apply And.intro)))
                  · rename_i p193a p193b
                    subst hA; exact q2 rfl _ (hV.g193 _ _ hI5 _ hI6 _ hI7 _ _ hI8) (dt p138a) (dt p193a) (df p193b)
                  · rename_i p194a p194b
                    refine hK8 (A.add x8_0 1, x8_1) _ ?_ ?_ ?_
                    · subst hA; exact (q2 rfl _ (hV.n194 _ _ hI5 _ hI6 _ hI7 _ _ hI8) (dt p138a) (dt p194a) (df p194b)).1
                    · subst hA; exact (q2 rfl _ (hV.n194 _ _ hI5 _ hI6 _ hI7 _ _ hI8) (dt p138a) (dt p194a) (df p194b)).2
                    · clear hE hinl hV hK8; cbv; (try (repeat' (first | exact True.intro | rfl | assumption | apply And.intro)))
                  · rename_i p195a
                    subst hA; exact q2 rfl _ (hV.g195 _ _ hI5 _ hI6 _ hI7 _ _ hI8) (dt p138a) (df p195a)
                  · rename_i p196a
                    refine hK5 (x8_1, A.add x5_1 1) _ ?_ ?_ ?_
                    · subst hA; exact (q2 rfl _ (hV.n196 _ _ hI5 _ hI6 _ hI7 _ _ hI8) (dt p138a) (df p196a)).1
                    · subst hA; exact (q2 rfl _ (hV.n196 _ _ hI5 _ hI6 _ hI7 _ _ hI8) (dt p138a) (df p196a)).2
                    · clear hE hinl hV hK5; cbv; (try (repeat' (first | exact True.intro | rfl | assumption | apply And.intro)))
      · rename_i p197a
        refine Leaf.gen fun σz hσz => ?_
        refine loopBJ hE [15, 17] hinl 6 [] [] [] (fun x : Bool × Int => [.b x.1, .i x.2]) (fun x => I9 x5_0 x5_1 x.1 x.2) (fun x => m9 x5_0 x5_1 x.1 x.2) (false, 0) (by subst hA; exact q2 rfl _ (hV.i9 _ _ hI5) (df p197a)) ?_ ?_ <;> subst hσz
        · clear hE hinl hV; cbv; (try (repeat' (first | exact True.intro | rfl | assumption | apply And.intro)))
        · intro ⟨x9_0, x9_1⟩ hI9 K9 hK9
          cbv
          repeat' (first | (refine Br.mk (fun _ => ?_) (fun _ => ?_) <;> cbv) | (refine NilB.mk (fun _ => ?_) ?_ <;> cbv) | refine And.intro ?_ ?_ | exact True.intro)
          · rename_i p198a
            subst hA; exact q2 rfl _ (hV.g198 _ _ hI5 _ _ hI9) (df p197a) (dt p198a)
          · rename_i p199a
            subst hA; exact q2 rfl _ (hV.g199 _ _ hI5 _ _ hI9) (df p197a) (dt p199a)
          · rename_i p200a
            subst hA; exact q2 rfl _ (hV.g200 _ _ hI5 _ _ hI9) (df p197a) (dt p200a)
          · rename_i p201a
            subst hA; exact q2 rfl _ (hV.g198 _ _ hI5 _ _ hI9) (df p197a) (dt p201a)
          · rename_i p202a
            subst hA; exact q2 rfl _ (hV.g202 _ _ hI5 _ _ hI9) (df p197a) (dt p202a)
          · rename_i p203a
            subst hA; exact q2 rfl _ (hV.g203 _ _ hI5 _ _ hI9) (df p197a) (dt p203a)
          · rename_i p204a p204b
            subst hA; exact q2 rfl _ (hV.g204 _ _ hI5 _ _ hI9) (df p197a) (dt p204a) (dt p204b)
          · rename_i p205a p205b p205c
            subst hA; exact q2 rfl _ (hV.g205 _ _ hI5 _ _ hI9) (df p197a) (dt p205a) (df p205b) (dt p205c)
          · rename_i p206a p206b p206c
            subst hA; exact q2 rfl _ (hV.g206 _ _ hI5 _ _ hI9) (df p197a) (dt p206a) (df p206b) (dt p206c)
          · rename_i p207a p207b p207c
            subst hA; exact q2 rfl _ (hV.g207 _ _ hI5 _ _ hI9) (df p197a) (dt p207a) (df p207b) (dt p207c)
          · rename_i p208a p208b p208c
            subst hA; exact q2 rfl _ (hV.g208 _ _ hI5 _ _ hI9) (df p197a) (dt p208a) (df p208b) (dt p208c)
          · rename_i p209a p209b p209c
            subst hA; exact q2 rfl _ (hV.g209 _ _ hI5 _ _ hI9) (df p197a) (dt p209a) (df p209b) (dt p209c)
          · rename_i p210a p210b p210c
            subst hA; exact q2 rfl _ (hV.g210 _ _ hI5 _ _ hI9) (df p197a) (dt p210a) (df p210b) (dt p210c)
          · rename_i p211a p211b p211c
            subst hA; exact q2 rfl _ (hV.g211 _ _ hI5 _ _ hI9) (df p197a) (dt p211a) (df p211b) (dt p211c)
          · rename_i p212a p212b p212c p212d
            subst hA; exact q2 rfl _ (hV.g212 _ _ hI5 _ _ hI9) (df p197a) (dt p212a) (df p212b) (dt p212c) (dt p212d)
          · rename_i p213a p213b p213c p213d
            subst hA; exact q2 rfl _ (hV.g213 _ _ hI5 _ _ hI9) (df p197a) (dt p213a) (df p213b) (dt p213c) (df p213d)
          · rename_i p214a p214b p214c p214d p214e
            subst hA; exact q2 rfl _ (hV.g214 _ _ hI5 _ _ hI9) (df p197a) (dt p214a) (df p214b) (dt p214c) (df p214d) p214e
          · rename_i p215a p215b p215c p215d p215e
            subst hA; exact q2 rfl _ (hV.g215 _ _ hI5 _ _ hI9) (df p197a) (dt p215a) (df p215b) (dt p215c) (df p215d) p215e
          · rename_i p216a p216b p216c p216d p216e
            subst hA; exact q2 rfl _ (hV.g216 _ _ hI5 _ _ hI9) (df p197a) (dt p216a) (df p216b) (dt p216c) (df p216d) p216e
          · rename_i p217a p217b p217c p217d p217e
            subst hA; exact q2 rfl _ (hV.g216 _ _ hI5 _ _ hI9) (df p197a) (dt p217a) (df p217b) (dt p217c) (df p217d) p217e
          · rename_i p218a p218b p218c p218d p218e
            subst hA; exact q2 rfl _ (hV.g214 _ _ hI5 _ _ hI9) (df p197a) (dt p218a) (df p218b) (dt p218c) (df p218d) p218e
          · rename_i p219a p219b p219c p219d p219e
            subst hA; exact q2 rfl _ (hV.g219 _ _ hI5 _ _ hI9) (df p197a) (dt p219a) (df p219b) (dt p219c) (df p219d) p219e
          · rename_i p220a p220b p220c p220d p220e
            subst hA; exact q2 rfl _ (hV.g220 _ _ hI5 _ _ hI9) (df p197a) (dt p220a) (df p220b) (dt p220c) (df p220d) p220e
          · rename_i p221a p221b p221c p221d p221e p221f
            subst hA; exact q2 rfl _ (hV.g221 _ _ hI5 _ _ hI9) (df p197a) (dt p221a) (df p221b) (dt p221c) (df p221d) p221e (dt p221f)
          · rename_i p222a p222b p222c p222d p222e p222f
            subst hA; exact q2 rfl _ (hV.g222 _ _ hI5 _ _ hI9) (df p197a) (dt p222a) (df p222b) (dt p222c) (df p222d) p222e (df p222f)
          · rename_i p223a p223b p223c p223d p223e p223f
            refine hK9 (x9_0, A.add x9_1 1) _ ?_ ?_ ?_
            · subst hA; exact (q2 rfl _ (hV.n223 _ _ hI5 _ _ hI9) (df p197a) (dt p223a) (df p223b) (dt p223c) (df p223d) p223e (df p223f)).1
            · subst hA; exact (q2 rfl _ (hV.n223 _ _ hI5 _ _ hI9) (df p197a) (dt p223a) (df p223b) (dt p223c) (df p223d) p223e (df p223f)).2
            · clear hE hinl hV hK9; cbv; (try (repeat' (first | exact True.intro | rfl | assumption | apply And.intro)))
          · rename_i p224a p224b p224c p224d p224e
            subst hA; exact q2 rfl _ (hV.g224 _ _ hI5 _ _ hI9) (df p197a) (dt p224a) (df p224b) (dt p224c) (df p224d) p224e
          · rename_i p225a p225b p225c p225d p225e
            refine hK9 (x9_0, A.add x9_1 1) _ ?_ ?_ ?_
            · subst hA; exact (q2 rfl _ (hV.n225 _ _ hI5 _ _ hI9) (df p197a) (dt p225a) (df p225b) (dt p225c) (df p225d) p225e).1
            · subst hA; exact (q2 rfl _ (hV.n225 _ _ hI5 _ _ hI9) (df p197a) (dt p225a) (df p225b) (dt p225c) (df p225d) p225e).2
            · clear hE hinl hV hK9; cbv; (try (repeat' (first | exact True.intro | rfl | assumption | apply And.intro)))
          · rename_i p226a p226b p226c
            subst hA; exact q2 rfl _ (hV.g226 _ _ hI5 _ _ hI9) (df p197a) (dt p226a) (df p226b) (df p226c)
          · rename_i p227a p227b p227c p227d
            subst hA; exact q2 rfl _ (hV.g227 _ _ hI5 _ _ hI9) (df p197a) (dt p227a) (df p227b) (df p227c) p227d
          · rename_i p228a p228b p228c p228d
            subst hA; exact q2 rfl _ (hV.g228 _ _ hI5 _ _ hI9) (df p197a) (dt p228a) (df p228b) (df p228c) p228d
          · rename_i p229a p229b p229c p229d
            subst hA; exact q2 rfl _ (hV.g229 _ _ hI5 _ _ hI9) (df p197a) (dt p229a) (df p229b) (df p229c) p229d
          · rename_i p230a p230b p230c p230d
            subst hA; exact q2 rfl _ (hV.g229 _ _ hI5 _ _ hI9) (df p197a) (dt p230a) (df p230b) (df p230c) p230d
          · rename_i p231a p231b p231c p231d
            subst hA; exact q2 rfl _ (hV.g227 _ _ hI5 _ _ hI9) (df p197a) (dt p231a) (df p231b) (df p231c) p231d
          · rename_i p232a p232b p232c p232d
            subst hA; exact q2 rfl _ (hV.g232 _ _ hI5 _ _ hI9) (df p197a) (dt p232a) (df p232b) (df p232c) p232d
          · rename_i p233a p233b p233c p233d
            subst hA; exact q2 rfl _ (hV.g233 _ _ hI5 _ _ hI9) (df p197a) (dt p233a) (df p233b) (df p233c) p233d
          · rename_i p234a p234b p234c p234d p234e
            subst hA; exact q2 rfl _ (hV.g234 _ _ hI5 _ _ hI9) (df p197a) (dt p234a) (df p234b) (df p234c) p234d (dt p234e)
          · rename_i p235a p235b p235c p235d p235e
            subst hA; exact q2 rfl _ (hV.g235 _ _ hI5 _ _ hI9) (df p197a) (dt p235a) (df p235b) (df p235c) p235d (df p235e)
          · rename_i p236a p236b p236c p236d p236e
            refine hK9 (x9_0, A.add x9_1 1) _ ?_ ?_ ?_
            · subst hA; exact (q2 rfl _ (hV.n236 _ _ hI5 _ _ hI9) (df p197a) (dt p236a) (df p236b) (df p236c) p236d (df p236e)).1
            · subst hA; exact (q2 rfl _ (hV.n236 _ _ hI5 _ _ hI9) (df p197a) (dt p236a) (df p236b) (df p236c) p236d (df p236e)).2
            · clear hE hinl hV hK9; cbv; (try (repeat' (first | exact True.intro | rfl | assumption | apply And.intro)))
          · rename_i p237a p237b p237c p237d
            subst hA; exact q2 rfl _ (hV.g237 _ _ hI5 _ _ hI9) (df p197a) (dt p237a) (df p237b) (df p237c) p237d
          · rename_i p238a p238b p238c p238d
            refine hK9 (x9_0, A.add x9_1 1) _ ?_ ?_ ?_
            · subst hA; exact (q2 rfl _ (hV.n238 _ _ hI5 _ _ hI9) (df p197a) (dt p238a) (df p238b) (df p238c) p238d).1
            · subst hA; exact (q2 rfl _ (hV.n238 _ _ hI5 _ _ hI9) (df p197a) (dt p238a) (df p238b) (df p238c) p238d).2
            · clear hE hinl hV hK9; cbv; (try (repeat' (first | exact True.intro | rfl | assumption | apply And.intro)))
          · rename_i p239a
            subst hA; exact q2 rfl _ (hV.g239 _ _ hI5 _ _ hI9) (df p197a) (df p239a)
          · rename_i p240a
            subst hA; exact q2 rfl _ (hV.g240 _ _ hI5 _ _ hI9) (df p197a) (df p240a)
end HX

namespace HX
open Go Go.Proofs CX

theorem tyB_ok : tyB.All (fun t ty => CX.env.T t = some ty) := by
  unfold tyB
  simp only [BT.All, true_and, and_true]
  repeat' apply And.intro
  all_goals rfl

theorem cxE_ok (ro : Addr → Option V) : CX.EnvOk (cxE ro) Try.prog := by
  refine ⟨fun t ty h => CX.env_ok.T t ty (tyB_ok.get h), fun f fn h => CX.env_ok.fn f fn h, CX.env_ok.mixed, fun f b h w => ?_, fun f _ _ _ _ _ _ h => ?_, fun f h => ?_⟩
  rotate_left
  · simp only [cxE, extF] at h
    split at h <;> cases h
  · simp only [cxE, extF] at h
    split at h <;> cases h
  simp only [cxE, extF] at h
  split at h
  · rename_i hb
    simp only [beqN_iff] at hb
    simp only [Option.some.injEq, CX.Ext.bool.injEq] at h
    subst hb h
    exact (CX.works_ok w).mono fun e w' ⟨h1, h2, h3, h4, h5, h6⟩ => ⟨h1, h2, h3, h4, h5, h6⟩
  · cases h

theorem hxT {ro : Addr → Option V} : TOk (cxE ro) := TOk.of (cxE_ok ro)

theorem hxEnv {ro : Addr → Option V} {sig : Nat → Option Sig} {pre : Nat → List (List D) → Prop} {fn : Nat → List (List D) → Nat → Nat → D} (h : ∀ f sg, sig f = some sg → PureC (cxE ro) f sg (pre f) (fn f)) : EnvOk ⟨Ar.std, cxE ro, ksF, sig, pre, fn⟩ := ⟨rfl, hxT, h⟩

theorem works_pure {ro : Addr → Option V} : PureC (cxE ro) 5 ⟨[], [(false, [.bool])], false⟩ (fun _ => True) (fun _ _ _ => .b true) := by
  intro ds _ g bar nx h args hg hbar ha
  cases args with
  | cons _ _ => cases ds <;> simp [ArgsFz] at ha
  | nil =>
    have hfn : ∃ fn c, (cxE ro).fn 5 = some fn ∧ fn.body = some c := ⟨_, _, rfl, rfl⟩
    obtain ⟨fn, c, h1, h2⟩ := hfn
    refine ⟨[.bool true], h, nx, g, Evt.of fun n k => ?_, Nat.le_refl _, fun _ _ => rfl, fun _ _ h => h, fun id o hgo => ⟨hg id o hgo, .inl hgo⟩, ⟨[.bool true], rfl, fun j k hj => ?_, _, rfl, rfl⟩, trivial⟩
    · have hx : (cxE ro).ext 5 = some (.bool true) := rfl
      simp only [callF, h1, h2, hx]
      rfl
    · cases j with
      | zero =>
        simp only [List.getElem?_cons_zero, Option.some.injEq] at hj
        subst hj
        exact ⟨_, rfl, by simp only [FzC]; exact ⟨⟨_, rfl⟩, rfl⟩⟩
      | succ j => simp at hj

theorem call_ro {P : Program} {E : CX.Env} (hE : CX.EnvOk E P) {f : FuncId} {n : Nat} {v : V} {args : List V} {xs : List Value} {h' : T O} {nx' : Nat} {w : World} (hro : RoAt E.ro w) (ha : RvL (fun _ => none) 0 args xs)
    (h : callF E (cx E n) 0 .e 0 f args (fun v h nx => retV v h nx) = retV v h' nx') :
    Calls P f xs.toArray w fun e w' => ∃ u ρ n, e = .returned u ∧ Rv ρ n v u ∧ Kept w w' := by
  obtain ⟨v', g', n', fn, h1, _, _, h2⟩ := callF_ok hE (cx_ok hE n).1 (ρ := fun _ => none) (n := 0) (bar := 0) (g := .e) (w := w) (xs := xs) ⟨hro, fun a v h id o L _ _ hL => by cases hL⟩ ⟨fun id o h => by simp [T.get] at h, fun id o id' o' h => by simp [T.get] at h, fun _ _ => rfl, fun _ _ h => by cases h⟩ ha h
  have e : v' = v := by
    simp only [retV, Option.some.injEq, Prod.mk.injEq, CX.St.mk.injEq, CX.T.n.injEq, true_and, and_true] at h1
    exact h1.1
  subst e
  refine (callsIn_wide.1 (h2 none)).mono fun e w' he => ?_
  obtain ⟨u, ρ', rfl, d1, _, _, _, d5⟩ := he
  refine ⟨u, ρ', n', rfl, d1, d5.os, d5.tape, d5.output, d5.size, fun b hb => d5.keep b hb ?_⟩
  rintro ⟨id, o, L, _, h, _⟩
  simp [T.get] at h
end HX

namespace CX
open Go Go.ChangeShapes Go.WideShapes

theorem Kept.frozen {w w' : World} (h : Kept w w') {a : Addr} (ha : a.block < w.heap.size) : w'.frozen? a = w.frozen? a := by
  simp only [World.frozen?, h.2.2.2.2 a.block ha]

theorem Kept.but {w w' : World} (h : Kept w w') (may : MemPlace → Prop) : w.keptBut w' may := by
  refine ⟨h.1, h.2.2.1, fun i hi => ?_⟩
  rw [h.2.2.2.2 i hi]
  obtain ⟨o, ho⟩ : ∃ o, w.heap[i]? = some o := ⟨w.heap[i], by simp [hi]⟩
  rw [ho]
  cases o with
  | cells c t fr => exact ⟨rfl, rfl, rfl, fun _ _ => rfl⟩
  | map es c => exact .inr ⟨rfl, rfl⟩
  | _ => rfl

section
variable {H : Type} {enc : TypeId × Value → H} {P : Program}

theorem post_kept {f : Func} {s : ChangeSpec} {apart fresh handsOn again : Bool} {W W' : World} {args : Array Value} {v : Value} {ds gs : List (DataW H)} {before pa pv : List MemPlace}
    (hW : DataW.Whole enc P f.params.toList s.vars apart W args.toList ds gs before)
    (hres : ∀ (b : Nat) (sp : Nat → Bool) (hd : Bool), DataW.TrodAll enc P W' b sp hd f.resultTypes.toList (v.resultList f.resultTypes.size) (s.fn H (ds ++ gs)).results [])
    (hargs : ∀ sp : Nat → Bool, (∀ p ∈ before, sp p.block = true) → DataW.TrodAll enc P W' 0 sp true f.params.toList args.toList (s.fn H (ds ++ gs)).args pa)
    (hvars : ∀ sp : Nat → Bool, (∀ p ∈ before, sp p.block = true) → DataW.TrodVars enc P W' sp s.vars (s.fn H (ds ++ gs)).vars pv)
    (hps : before = pa ++ pv) (hk : Kept W W')
    (hok : ∀ (j : Nat) (t : TypeId) (r : Value), f.resultTypes[j]? = some t → (v.resultList f.resultTypes.size)[j]? = some r → Value.okWide P W' .any 0 t r) :
    s.post enc P f apart fresh handsOn again W args v W' := by
  have hold : ∀ p ∈ before, (fun b => decide (b < W.heap.size)) p.block = true := fun p hp => by simpa using hW.lt p hp
  have hlt := hW.lt
  refine ⟨ds, gs, before, [], pa, pv, hW, hres _ _ _, hargs _ hold, hvars _ hold, World.keptBut_mono (fun p hp => ⟨hp, ?_⟩) (hk.but (· ∈ before)), fun _ => ?_⟩
  · rw [hps, List.mem_append] at hp
    exact Or.inr hp
  · obtain ⟨_, _, _, _, _, hz, hn⟩ := hW
    refine ⟨hok, _, _, ([] ++ pa) ++ pv, ⟨[] ++ pa, pv, trodAll_append (hargs _ (fun _ _ => rfl)) (hres _ _ _), hvars _ (fun _ _ => rfl), rfl, ?_, ?_⟩, ?_⟩
    · intro b off hp
      have hp' : MemPlace.cell b off ∈ before := by rw [hps]; simpa using hp
      rw [hk.frozen (hlt _ hp')]
      exact hz b off hp'
    · intro ha
      have := hn ha
      rw [hps] at this
      simpa using this
    · intro p hp _
      rw [hps]
      simpa using hp
end
end CX

namespace HB
open Go Go.ChangeShapes Go.WideShapes Go.ChangeAt Go.RowKit

theorem add_block (a : Addr) (n : Nat) : (a.add n).block = a.block := by unfold Addr.add; split <;> rfl
theorem addr_add2 (a : Addr) (i c : Nat) : (a.add i).add c = a.add (i + c) := by
  unfold Addr.add
  by_cases hi : i = 0
  · subst hi; simp
  · by_cases hc : c = 0
    · subst hc; simp [hi]
    · simp [hi, hc, Nat.add_assoc]

theorem mapM_at {α β : Type} {f : α → Option β} : ∀ {l : List α} {r : List β}, l.mapM f = some r → r.length = l.length ∧ ∀ (i : Nat) (h : i < l.length), ∃ y, f l[i] = some y ∧ r[i]? = some y
  | [], r, h => by
    simp only [List.mapM_nil, Option.pure_def, Option.some.injEq] at h
    subst h
    exact ⟨rfl, fun i h => by simp at h⟩
  | x :: xs, r, h => by
    rw [List.mapM_cons] at h
    cases hx : f x with
    | none => simp [hx] at h
    | some y =>
      cases hxs : xs.mapM f with
      | none => simp [hx, hxs] at h
      | some ys =>
        simp only [hx, hxs, Option.bind_eq_bind, Option.bind_some, Option.pure_def, Option.some.injEq] at h
        subst h
        obtain ⟨h1, h2⟩ := mapM_at hxs
        refine ⟨by simp [h1], fun i hi => ?_⟩
        cases i with
        | zero => exact ⟨y, by simpa using hx, by simp⟩
        | succ i =>
          obtain ⟨z, e1, e2⟩ := h2 i (by simpa using hi)
          exact ⟨z, by simpa using e1, by simpa using e2⟩

theorem cells_get {w : World} {base : Nat} {a : Addr} {n : Nat} {cs : List Value} (h : w.cells? base a n = some cs) : cs.length = n ∧ (0 < n → a.block < w.heap.size) ∧ ∀ c, c < n → w.cell? (a.add c) = cs[c]? := by
  unfold World.cells? at h
  split at h
  · obtain ⟨h1, h2⟩ := mapM_at h
    rw [List.length_range] at h1
    have key : ∀ c, c < n → w.cell? (a.add c) = cs[c]? := fun c hc => by
      obtain ⟨y, e1, e2⟩ := h2 c (by simpa using hc)
      rw [List.getElem_range] at e1
      rw [e1, e2]
    refine ⟨h1, fun h0 => ?_, key⟩
    obtain ⟨y, e1, _⟩ := h2 0 (by simpa using h0)
    rw [List.getElem_range] at e1
    rcases Nat.lt_or_ge a.block w.heap.size with hb | hb
    · exact hb
    · exfalso
      unfold World.cell? at e1
      rw [add_block] at e1
      rw [Array.getElem?_eq_none (by omega)] at e1
      cases e1
  · cases h

section
variable {H : Type} {enc : TypeId × Value → H} {P : Program} {w : World} {base : Nat} {spare : Nat → Bool} {held : Bool}
theorem wf_rng {k : IntKind} {n : Int} (h : (Lit.int k n).wf = true) : k.min ≤ n ∧ n ≤ k.max := by
  simpa [Lit.wf] using h

theorem trod_array {t e : TypeId} {n m : Nat} {cs : List Value} {x : DataW H × List MemPlace} (ht : P.underlying t = some (.array n e)) (h : DataW.trod enc P w base spare held (m + 1) t cs = some x) :
    cs.length = P.cellsOf t ∧ ∀ i, i < n → ∃ y, DataW.trod enc P w base spare held m e ((cs.drop (i * P.cellsOf e)).take (P.cellsOf e)) = some y := by
  unfold DataW.trod at h
  rw [ht] at h
  split at h <;> simp_all
  obtain ⟨hl, h⟩ := h
  obtain ⟨a, h, _⟩ := h
  obtain ⟨h1, h2⟩ := mapM_at h
  intro i hi
  obtain ⟨y, e1, _⟩ := h2 i (by simpa using hi)
  rw [List.getElem_range] at e1
  exact ⟨y.1, y.2, by simpa using e1⟩

def isAgg (P : Program) (t : TypeId) : Bool := match P.underlying t with
  | some (.struct _) => true
  | some (.array _ _) => true
  | _ => false

theorem Kept_same {W W' : World} (h : CX.Kept W W') {p : MemPlace} (hp : p.block < W.heap.size) : W.sameAt W' p := by
  cases p with
  | cell b off =>
    simp only [World.sameAt, World.cell?]
    rw [h.2.2.2.2 b hp]
  | map b => exact h.2.2.2.2 b hp

theorem args_stay (hl : laidOutB P = true) {W W' : World} {sp : Nat → Bool} : ∀ {ts : List TypeId} {vs : List Value} {ds : List (DataW H)} {ps : List MemPlace}, (ts.all fun t => P.readableRec t && decide (t < P.types.size)) = true →
    DataW.TrodAll enc P W base (fun _ => true) true ts vs ds ps → (∀ p ∈ ps, W.sameAt W' p) → (∀ p ∈ ps, sp p.block = true) → DataW.TrodAll enc P W' base sp true ts vs ds ps
  | [], vs, ds, ps, _, h, _, _ => by
    obtain ⟨rfl, rfl, rfl⟩ := trodAll_nil h
    exact trodAll_mk0
  | t :: ts, [], ds, ps, _, h, _, _ => by simp [DataW.TrodAll] at h
  | t :: ts, v :: vs, [], ps, _, h, _, _ => by simp [DataW.TrodAll] at h
  | t :: ts, v :: vs, d :: ds, ps, hr, h, h1, h2 => by
    obtain ⟨p, q, ha, hb, rfl⟩ := h
    simp only [List.all_cons, Bool.and_eq_true, decide_eq_true_eq] at hr
    exact ⟨p, q, Go.WideElems.Trod_stays hl hr.1.1 hr.1.2 ha (fun x hx => h1 x (by simp [hx])) (fun x hx => h2 x (by simp [hx])),
      args_stay hl (by simpa using hr.2) hb (fun x hx => h1 x (by simp [hx])) (fun x hx => h2 x (by simp [hx])), rfl⟩

end
end HB

namespace HX
open Go Go.Proofs Go.ChangeShapes Go.WideShapes Go.ChangeAt Go.RowKit CX

def descF (g : TypeId → Option (List Kd)) (P : Program) : List Field → Nat → Option (List Kd)
  | [], _ => some []
  | f :: r, off => match g f.type with
    | some ks => match beqN f.offset off && beqN (P.cellsOf f.type) ks.length with
      | true => match descF g P r (off + ks.length) with
        | some ks' => some (ks ++ ks')
        | none => none
      | false => none
    | none => none

def repK (ks : List Kd) : Nat → List Kd
  | 0 => []
  | n + 1 => ks ++ repK ks n

def desc (P : Program) : Nat → TypeId → Option (List Kd)
  | 0, _ => none
  | n + 1, t => match P.underlying t with
    | some .bool => some [.bool]
    | some (.int k) => some [.int k]
    | some .string => some [.str]
    | some (.slice e) => match desc P n e with
      | some (k :: ks) => match beqN (P.cellsOf e) (ks.length + 1) with
        | true => some [.sl (k :: ks)]
        | false => none
      | _ => none
    | some (.struct fs) => match descF (desc P n) P fs.toList 0 with
      | some ks => match beqN (P.cellsOf t) ks.length with
        | true => some ks
        | false => none
      | none => none
    | some (.array m e) => match desc P n e with
      | some ks => match beqN (P.cellsOf e) ks.length && beqN (P.cellsOf t) (repK ks m).length with
        | true => some (repK ks m)
        | false => none
      | none => none
    | _ => none

mutual
def RngK : Kd → D → Prop
  | .int k, d => k.min ≤ d.int ∧ d.int ≤ k.max
  | .str, d => ∀ b ∈ d.str, b < 256
  | .sl ks, d => ∀ row ∈ d.rows, RngL ks row
  | _, _ => True
def RngL : List Kd → List D → Prop
  | k :: ks, d :: ds => RngK k d ∧ RngL ks ds
  | _, _ => True
end

mutual
def RdK (w : World) : Kd → D → Value → Prop
  | .int k, d, u => (∃ n, d = .i n) ∧ u = .int k d.int
  | .bool, d, u => (∃ b, d = .b b) ∧ u = .bool d.boo
  | .str, d, u => (∃ s, d = .s s) ∧ u = .string (bytesOf d.str)
  | .fnc _, _, _ => False
  | .pt _, _, _ => False
  | .sl ks, d, u => (∃ rows, d = .l rows ∧ LenR ks rows) ∧ 0 < ks.length ∧ ((d.rows = [] ∧ u = .slice none 0 0) ∨ ∃ a cap, u = .slice (some a) d.rows.length cap ∧ d.rows.length ≤ cap ∧
      ∀ i row, d.rows[i]? = some row → ∃ cs : List Value, (∀ c, c < ks.length → w.cell? (a.add (i * ks.length + c)) = cs[c]?) ∧ RdL w ks row cs)
def RdL (w : World) : List Kd → List D → List Value → Prop
  | [], [], [] => True
  | k :: ks, d :: ds, c :: cs => RdK w k d c ∧ RdL w ks ds cs
  | _, _, _ => False
end

def Holds (w : World) (ks : List Kd) (cs : List Value) : Prop := ∃ l, RdL w ks l cs ∧ RngL ks l

theorem RdL.append {w : World} : ∀ {ks ks' : List Kd} {l l' : List D} {cs cs' : List Value}, RdL w ks l cs → RdL w ks' l' cs' → RdL w (ks ++ ks') (l ++ l') (cs ++ cs')
  | [], _, [], _, [], _, _, h => h
  | _ :: _, _, _ :: _, _, _ :: _, _, h, h' => by
    simp only [RdL, List.cons_append] at h ⊢
    exact ⟨h.1, RdL.append h.2 h'⟩
  | [], _, [], _, _ :: _, _, h, _ => by simp [RdL] at h
  | [], _, _ :: _, _, _, _, h, _ => by simp [RdL] at h
  | _ :: _, _, [], _, _, _, h, _ => by simp [RdL] at h
  | _ :: _, _, _ :: _, _, [], _, h, _ => by simp [RdL] at h

theorem RdL.len {w : World} : ∀ {ks : List Kd} {l : List D} {cs : List Value}, RdL w ks l cs → l.length = ks.length ∧ cs.length = ks.length
  | [], [], [], _ => ⟨rfl, rfl⟩
  | _ :: _, _ :: _, _ :: _, h => by
    simp only [RdL] at h
    have := RdL.len h.2
    exact ⟨by simp [this.1], by simp [this.2]⟩
  | [], [], _ :: _, h => by simp [RdL] at h
  | [], _ :: _, _, h => by simp [RdL] at h
  | _ :: _, [], _, h => by simp [RdL] at h
  | _ :: _, _ :: _, [], h => by simp [RdL] at h

theorem RngL.append : ∀ {ks ks' : List Kd} {l l' : List D}, l.length = ks.length → RngL ks l → RngL ks' l' → RngL (ks ++ ks') (l ++ l')
  | [], _, [], _, _, _, h => h
  | _ :: _, _, _ :: _, _, hl, h, h' => by
    simp only [RngL, List.cons_append] at h ⊢
    exact ⟨h.1, RngL.append (by simpa using hl) h.2 h'⟩
  | [], _, _ :: _, _, hl, _, _ => by simp at hl
  | _ :: _, _, [], _, hl, _, _ => by simp at hl

theorem Holds.append {w : World} {ks ks' : List Kd} {cs cs' : List Value} (h : Holds w ks cs) (h' : Holds w ks' cs') : Holds w (ks ++ ks') (cs ++ cs') := by
  obtain ⟨l, a, b⟩ := h
  obtain ⟨l', a', b'⟩ := h'
  exact ⟨l ++ l', a.append a', b.append a.len.1 b'⟩

theorem Holds.nil {w : World} : Holds w [] [] := ⟨[], trivial, trivial⟩

section
variable {H : Type} {enc : TypeId × Value → H} {P : Program} {w : World} {base : Nat} {spare : Nat → Bool} {held : Bool}

theorem holds_one {k : Kd} {d : D} {u : Value} (h : RdK w k d u) (hr : RngK k d) : Holds w [k] [u] := ⟨[d], ⟨h, trivial⟩, ⟨hr, trivial⟩⟩

theorem holds_rep {ks : List Kd} {cs : List Value} (m : Nat) (hl : cs.length = (repK ks m).length) (h : ∀ i, i < m → Holds w ks ((cs.drop (i * ks.length)).take ks.length)) : Holds w (repK ks m) cs := by
  induction m generalizing cs with
  | zero =>
    have : cs = [] := List.length_eq_zero_iff.1 (by simpa [repK] using hl)
    subst this
    exact Holds.nil
  | succ m ih =>
    have e : cs = cs.take ks.length ++ cs.drop ks.length := (List.take_append_drop _ _).symm
    rw [e]
    refine Holds.append (by simpa using h 0 (by omega)) (ih ?_ fun i hi => ?_)
    · simp only [List.length_drop, hl, repK, List.length_append]
      omega
    · have := h (i + 1) (by omega)
      rwa [List.drop_drop, show ks.length + i * ks.length = (i + 1) * ks.length by rw [Nat.add_mul]; omega]

theorem holds_fields {g : TypeId → Option (List Kd)} {cs : List Value} : ∀ (fs : List Field) (off : Nat) (ks : List Kd), descF g P fs off = some ks → cs.length = off + ks.length →
    (∀ f ∈ fs, ∀ ks', g f.type = some ks' → Holds w ks' ((cs.drop f.offset).take (P.cellsOf f.type))) → Holds w ks (cs.drop off)
  | [], off, ks, h, hl, _ => by
    simp only [descF, Option.some.injEq] at h
    subst h
    have : cs.drop off = [] := List.drop_eq_nil_of_le (by simp at hl; omega)
    rw [this]
    exact Holds.nil
  | f :: r, off, ks, h, hl, hf => by
    simp only [descF] at h
    split at h
    · rename_i ks1 hk
      split at h
      · rename_i hb
        simp only [Bool.and_eq_true, beqN_iff] at hb
        split at h
        · rename_i ks2 hks2
          simp only [Option.some.injEq] at h
          subst h
          have e : cs.drop off = (cs.drop off).take ks1.length ++ (cs.drop off).drop ks1.length := (List.take_append_drop _ _).symm
          rw [e]
          refine Holds.append ?_ ?_
          · have := hf f (by simp) ks1 hk
            rwa [hb.1, hb.2] at this
          · rw [List.drop_drop]
            exact holds_fields r (off + ks1.length) ks2 hks2 (by rw [hl, List.length_append]; omega) (fun f' hf' => hf f' (by simp [hf']))
        · cases h
      · cases h
    · cases h

theorem bytes_of (z : ByteArray) : bytesOf (z.data.toList.map UInt8.toNat) = z := by
  obtain ⟨d⟩ := z
  simp only [bytesOf, List.map_map]
  congr 1
  have : (UInt8.ofNat ∘ UInt8.toNat) = id := by funext x; simp
  rw [this]
  simp

theorem holds_of_trod : ∀ (n : Nat) (t : TypeId) (ks : List Kd), desc P n t = some ks → ∀ (m : Nat) (cs : List Value) (x : DataW H × List MemPlace), DataW.trod enc P w base spare held m t cs = some x → Holds w ks cs
  | 0, _, _, h, _, _, _, _ => by simp [desc] at h
  | n + 1, t, ks, h, m, cs, x, hx => by
    unfold desc at h
    split at h
    · rename_i hu
      simp only [Option.some.injEq] at h
      subst h
      obtain ⟨b, rfl, _⟩ := DataW.trod_bool hu hx
      exact holds_one (d := .b b) ⟨⟨_, rfl⟩, rfl⟩ trivial
    · rename_i k hu
      simp only [Option.some.injEq] at h
      subst h
      obtain ⟨z, rfl, _, hw⟩ := DataW.trod_int hu hx
      exact holds_one (d := .i z) ⟨⟨_, rfl⟩, rfl⟩ (HB.wf_rng hw)
    · rename_i hu
      simp only [Option.some.injEq] at h
      subst h
      obtain ⟨z, rfl, _, _⟩ := DataW.trod_string hu hx
      refine holds_one (d := .s (z.data.toList.map UInt8.toNat)) ⟨⟨_, rfl⟩, ?_⟩ ?_
      · show Value.string z = .string (bytesOf (z.data.toList.map UInt8.toNat))
        rw [bytes_of]
      · intro b hb
        obtain ⟨x, _, rfl⟩ := List.mem_map.1 (show b ∈ z.data.toList.map UInt8.toNat from hb)
        exact x.toNat_lt
    · rename_i e hu
      split at h
      · rename_i k ks' hd
        split at h
        · rename_i hb
          have hb : P.cellsOf e = ks'.length + 1 := by rw [beqN_iff] at hb; exact hb
          simp only [Option.some.injEq] at h
          subst h
          rcases DataW.trod_slice hu hx with ⟨rfl, _⟩ | ⟨a, len, cap, elems, rest, m', rfl, rfl, _, _, h2, h3, h4, h5, _, _⟩
          · exact holds_one (d := .l []) ⟨⟨_, rfl, fun _ h => (by cases h), by simp⟩, by simp, .inl ⟨rfl, rfl⟩⟩ (fun _ h => (by cases h))
          · have row : ∀ i, i < len → ∃ l cs', (∀ c, c < ks'.length + 1 → w.cell? (a.add (i * (ks'.length + 1) + c)) = cs'[c]?) ∧ RdL w (k :: ks') l cs' ∧ RngL (k :: ks') l := by
              intro i hi
              have e1 := h5 i hi
              rw [List.getElem?_eq_getElem (by omega)] at e1
              obtain ⟨cs', c1, c2⟩ := Option.bind_eq_some_iff.1 e1
              obtain ⟨d1, d2, d3⟩ := HB.cells_get c1
              rw [hb] at d1 d2 d3 c1
              obtain ⟨l, g1, g2⟩ := holds_of_trod n e (k :: ks') hd m' cs' _ c2
              refine ⟨l, cs', fun c hc => ?_, g1, g2⟩
              rw [← d3 c hc, HB.addr_add2]
            let rows : Rows := (List.range len).map fun i => if h : i < len then Classical.choose (row i h) else []
            have hlen : rows.length = len := by simp [rows]
            have hget : ∀ i r, rows[i]? = some r → ∃ h : i < len, r = Classical.choose (row i h) := by
              intro i r hr
              have hi : i < len := by rw [← hlen]; exact (List.getElem?_eq_some_iff.1 hr).1
              refine ⟨hi, ?_⟩
              simp only [rows, List.getElem?_map, List.getElem?_range hi, Option.map_some, Option.some.injEq] at hr
              rw [← hr, dif_pos hi]
            refine holds_one (d := .l rows) ⟨⟨_, rfl, fun r hr => ?_, ?_⟩, by simp, .inr ⟨a, cap, ?_, ?_, fun i r hr => ?_⟩⟩ (fun r hr => ?_)
            · obtain ⟨i, hi⟩ := List.getElem?_of_mem hr
              obtain ⟨h, rfl⟩ := hget i r hi
              obtain ⟨_, _, h6, _⟩ := Classical.choose_spec (row i h)
              exact h6.len.1
            · have h3 : cap ≤ 9223372036854775807 := h3
              rw [hlen]; omega
            · show Value.slice (some a) len cap = .slice (some a) rows.length cap
              rw [hlen]
            · show rows.length ≤ cap
              rw [hlen]; exact h2
            · obtain ⟨h, rfl⟩ := hget i r hr
              obtain ⟨cs', h5', h6, _⟩ := Classical.choose_spec (row i h)
              exact ⟨cs', fun c hc => h5' c (by simpa using hc), h6⟩
            · obtain ⟨i, hi⟩ := List.getElem?_of_mem (show r ∈ rows from hr)
              obtain ⟨h, rfl⟩ := hget i r hi
              obtain ⟨_, _, _, h7⟩ := Classical.choose_spec (row i h)
              exact h7
        · cases h
      · cases h
    · rename_i fs hu
      split at h
      · rename_i ks' hd
        split at h
        · rename_i hb
          rw [beqN_iff] at hb
          simp only [Option.some.injEq] at h
          subst h
          obtain ⟨xs, m', rfl, _, hl, hxs, hf⟩ := DataW.trod_struct hu hx
          have := holds_fields (w := w) (cs := cs) fs.toList 0 ks' hd (by rw [hl, hb]; simp) (fun f hm ks1 hk1 => ?_)
          · simpa using this
          · obtain ⟨i, hi, rfl⟩ := List.mem_iff_getElem.1 hm
            have hi' : i < fs.size := by simpa using hi
            have e1 := hf i fs[i] (by simp [hi'])
            rw [List.getElem?_eq_getElem (by omega)] at e1
            have e2 : fs.toList[i] = fs[i] := by simp
            rw [e2] at hk1 ⊢
            exact holds_of_trod n _ ks1 hk1 m' _ _ e1
        · cases h
      · cases h
    · rename_i m0 e hu
      split at h
      · rename_i ks' hd
        split at h
        · rename_i hb
          simp only [Bool.and_eq_true, beqN_iff] at hb
          simp only [Option.some.injEq] at h
          subst h
          cases m with
          | zero => simp [DataW.trod] at hx
          | succ m' =>
            obtain ⟨hl, hi⟩ := HB.trod_array hu hx
            refine holds_rep m0 (by rw [hl, hb.2]) fun i h => ?_
            obtain ⟨y, hy⟩ := hi i h
            rw [hb.1] at hy
            exact holds_of_trod n e ks' hd m' _ y hy
        · cases h
      · cases h
    · cases h


def strOf (z : ByteArray) : List Nat := z.data.toList.map UInt8.toNat

def valOf : Value → Option V
  | .int k n => some (.int k n)
  | .bool b => some (.bool b)
  | .string z => some (.str (strOf z))
  | .slice none 0 0 => some .nils
  | .slice (some a) n cap => if n ≤ cap then some (.rslc a n cap) else none
  | _ => none

noncomputable def roOf (w : World) (a : Addr) : Option V := match w.cell? a with
  | some u => valOf u
  | none => none

theorem valOf_rv {u : Value} {v : V} (h : valOf u = some v) : one1 v = true ∧ ∀ ρ n, Rv ρ n v u := by
  unfold valOf at h
  split at h
  · cases h; exact ⟨rfl, fun _ _ => by simp only [Rv]⟩
  · cases h; exact ⟨rfl, fun _ _ => by simp only [Rv]⟩
  · cases h
    rename_i z
    refine ⟨rfl, fun _ _ => ?_⟩
    simp only [Rv]
    refine ⟨fun b hb => ?_, by rw [strOf, bytes_of]⟩
    obtain ⟨x, _, rfl⟩ := List.mem_map.1 (show b ∈ z.data.toList.map UInt8.toNat from hb)
    exact x.toNat_lt
  · cases h; exact ⟨rfl, fun _ _ => by simp only [Rv]⟩
  · split at h
    · rename_i hle
      cases h
      exact ⟨rfl, fun _ _ => by simp only [Rv]; exact ⟨hle, trivial⟩⟩
    · cases h
  · cases h

theorem roOf_ok (w : World) : RoAt (roOf w) w := by
  intro a v h
  unfold roOf at h
  split at h
  · rename_i u hu
    obtain ⟨h1, h2⟩ := valOf_rv h
    exact ⟨h1, u, hu, fun ρ n => h2 ρ n⟩
  · cases h

theorem str_bytes {s : List Nat} (h : ∀ b ∈ s, b < 256) : strOf (bytesOf s) = s := by
  simp only [strOf, bytesOf, List.map_map]
  induction s with
  | nil => rfl
  | cons b s ih =>
    have hb := h b (.head _)
    simp only [List.map_cons, Function.comp_apply, UInt8.toNat_ofNat', List.cons.injEq]
    exact ⟨Nat.mod_eq_of_lt hb, ih fun x hx => h x (.tail _ hx)⟩

mutual
theorem rdK_fz {g : Nat → Option O} {B : Nat} : ∀ (k : Kd) (d : D) (u : Value), RdK w k d u → RngK k d → ∃ v, valOf u = some v ∧ FzC (roOf w) g B k d v
  | .int k, d, u, h, _ => by
    simp only [RdK] at h
    obtain ⟨⟨n, rfl⟩, rfl⟩ := h
    exact ⟨_, rfl, by simp only [FzC]; exact ⟨⟨_, rfl⟩, trivial⟩⟩
  | .bool, d, u, h, _ => by
    simp only [RdK] at h
    obtain ⟨⟨n, rfl⟩, rfl⟩ := h
    exact ⟨_, rfl, by simp only [FzC]; exact ⟨⟨_, rfl⟩, trivial⟩⟩
  | .str, d, u, h, hr => by
    simp only [RdK] at h
    obtain ⟨⟨n, rfl⟩, rfl⟩ := h
    simp only [RngK, D.str] at hr
    refine ⟨_, rfl, ?_⟩
    simp only [FzC, D.str, str_bytes hr]
    exact ⟨⟨_, rfl⟩, trivial⟩
  | .sl ks, d, u, h, hr => by
    simp only [RdK] at h
    obtain ⟨⟨rows, rfl, hl⟩, hpos, h⟩ := h
    simp only [RngK, D.rows] at hr h
    rcases h with ⟨rfl, rfl⟩ | ⟨a, cap, rfl, hcap, hrow⟩
    · exact ⟨.nils, rfl, by simp only [FzC]; exact ⟨⟨_, rfl, hl⟩, .inl ⟨rfl, trivial⟩⟩⟩
    · refine ⟨.rslc a rows.length cap, by simp only [valOf]; rw [if_pos hcap], ?_⟩
      simp only [FzC, D.rows]
      refine ⟨⟨_, rfl, hl⟩, .inr (.inr ⟨a, cap, rfl, hpos, hcap, fun i hi => ?_⟩)⟩
      obtain ⟨cs, c1, c2⟩ := hrow i rows[i] (List.getElem?_eq_getElem hi)
      have hg := hr rows[i] (List.getElem_mem hi)
      refine FzR.of _ _ _ _ fun j k hk => ?_
      have hj : j < ks.length := (List.getElem?_eq_some_iff.1 hk).1
      obtain ⟨v, e1, e2⟩ := rdL_fz (g := g) (B := B) ks rows[i] cs c2 hg j k hk
      refine ⟨v, ?_, ?_⟩
      · simp only [roOf, Nat.zero_add, c1 j hj]
        revert e1
        cases cs[j]? with
        | none => intro e1; cases e1
        | some u => intro e1; exact e1
      · have : gt rows i (0 + j) = rows[i].getD j .nil := by simp [gt, List.getD_eq_getElem?_getD, hi]
        rw [this]; exact e2
theorem rdL_fz {g : Nat → Option O} {B : Nat} : ∀ (ks : List Kd) (l : List D) (cs : List Value), RdL w ks l cs → RngL ks l → ∀ j k, ks[j]? = some k → ∃ v, (cs[j]?).bind valOf = some v ∧ FzC (roOf w) g B k (l.getD j .nil) v
  | [], _, _, _, _, j, k, hk => by simp at hk
  | k0 :: ks, d :: l, c :: cs, h, hr, 0, k, hk => by
    simp only [RdL] at h
    simp only [RngL] at hr
    simp only [List.getElem?_cons_zero, Option.some.injEq] at hk
    subst hk
    obtain ⟨v, a, b⟩ := rdK_fz (g := g) (B := B) k0 d c h.1 hr.1
    exact ⟨v, by simpa using a, by simpa using b⟩
  | k0 :: ks, d :: l, c :: cs, h, hr, j + 1, k, hk => by
    simp only [RdL] at h
    simp only [RngL] at hr
    obtain ⟨v, a, b⟩ := rdL_fz (g := g) (B := B) ks l cs h.2 hr.2 j k (by simpa using hk)
    exact ⟨v, by simpa using a, by simpa using b⟩
  | _ :: _, [], _, h, _, _, _, _ => by simp [RdL] at h
  | _ :: _, _ :: _, [], h, _, _, _, _ => by simp [RdL] at h
end

theorem rdL_vals {g : Nat → Option O} {B : Nat} {ρ : Nm} {n : Nat} : ∀ (ks : List Kd) (l : List D) (cs : List Value), RdL w ks l cs → RngL ks l →
    ∃ x : List V, x.length = ks.length ∧ (∀ j k, ks[j]? = some k → ∃ u, x[j]? = some u ∧ FzC (roOf w) g B k (l.getD j .nil) u) ∧ RvL ρ n x cs
  | [], [], [], _, _ => ⟨[], rfl, fun j k h => by simp at h, by simp [RvL]⟩
  | k :: ks, d :: l, c :: cs, h, hr => by
    simp only [RdL] at h
    simp only [RngL] at hr
    obtain ⟨v, a, b⟩ := rdK_fz (g := g) (B := B) k d c h.1 hr.1
    obtain ⟨x, e1, e2, e3⟩ := rdL_vals (g := g) (B := B) (ρ := ρ) (n := n) ks l cs h.2 hr.2
    refine ⟨v :: x, by simp [e1], fun j k' hk => ?_, by simp only [RvL]; exact ⟨(valOf_rv a).2 ρ n, e3⟩⟩
    cases j with
    | zero =>
      simp only [List.getElem?_cons_zero, Option.some.injEq] at hk
      subst hk
      exact ⟨v, rfl, by simpa using b⟩
    | succ j => simpa using e2 j k' (by simpa using hk)
  | [], [], _ :: _, h, _ => by simp [RdL] at h
  | [], _ :: _, _, h, _ => by simp [RdL] at h
  | _ :: _, [], _, h, _ => by simp [RdL] at h
  | _ :: _, _ :: _, [], h, _ => by simp [RdL] at h

def descAll (P : Program) (n : Nat) : List TypeId → Option (List (Bool × List Kd))
  | [] => some []
  | t :: r => match desc P n t, descAll P n r with
    | some ks, some l => some ((HB.isAgg P t, ks) :: l)
    | _, _ => none

def RngAll : List (Bool × List Kd) → List (List D) → Prop
  | (_, ks) :: r, d :: ds => RngL ks d ∧ RngAll r ds
  | _, _ => True

def trueRes (_ : List (List D)) (_ _ : Nat) : D := .b true

def ArgsRd (w : World) : List (Bool × List Kd) → List (List D) → List Value → Prop
  | [], [], [] => True
  | (g, ks) :: r, d :: ds, v :: vs => (RdL w ks d v.cells.toList ∧ (g = true → v = .agg (v.cells.toList).toArray) ∧ (g = false → v.cells.toList = [v])) ∧ ArgsRd w r ds vs
  | _, _, _ => False

theorem args_fz {g : Nat → Option O} {B : Nat} {ρ : Nm} {n : Nat} : ∀ (ps : List (Bool × List Kd)) (ds : List (List D)) (vs : List Value), ArgsRd w ps ds vs → RngAll ps ds → ∃ x : List V, ArgsFz (roOf w) g B ps ds x ∧ RvL ρ n x vs
  | [], [], [], _, _ => ⟨[], trivial, by simp [RvL]⟩
  | (a, ks) :: ps, d :: ds, v :: vs, h, hr => by
    obtain ⟨⟨h1, h2, h3⟩, h4⟩ := h
    obtain ⟨x, e1, e2, e3⟩ := rdL_vals (g := g) (B := B) (ρ := ρ) (n := n) ks d _ h1 hr.1
    obtain ⟨xs, f1, f2⟩ := args_fz (g := g) (B := B) (ρ := ρ) (n := n) ps ds vs h4 hr.2
    cases a with
    | true => exact ⟨.agg x :: xs, ⟨h1.len.1, ⟨x, e1, e2, rfl⟩, f1⟩, by simp only [RvL, Rv]; exact ⟨⟨_, e3, h2 rfl⟩, f2⟩⟩
    | false =>
      rw [h3 rfl] at e3
      match x, e3 with
      | [y], e3 =>
        simp only [RvL, and_true] at e3
        exact ⟨y :: xs, ⟨h1.len.1, ⟨[y], e1, e2, y, rfl, rfl⟩, f1⟩, by simp only [RvL]; exact ⟨e3, f2⟩⟩
      | [], e3 => simp [RvL] at e3
      | _ :: _ :: _, e3 => simp [RvL] at e3
  | [], [], _ :: _, h, _ => h.elim
  | [], _ :: _, _, h, _ => h.elim
  | _ :: _, [], _, h, _ => h.elim
  | _ :: _, _ :: _, [], h, _ => h.elim

theorem shape_of {r : Reach} {n : Nat} {t : TypeId} {ks : List Kd} {v : Value} (hd : desc P n t = some ks) (h : Value.okWide P w r base t v) :
    (HB.isAgg P t = true → v = .agg (v.cells.toList).toArray) ∧ (HB.isAgg P t = false → v.cells.toList = [v]) := by
  cases n with
  | zero => simp [desc] at hd
  | succ n =>
    unfold desc at hd
    unfold HB.isAgg
    split at hd
    · rename_i hu
      obtain ⟨b, rfl⟩ := okWide_bool hu h
      rw [hu]
      exact ⟨fun h => (by cases h), fun _ => rfl⟩
    · rename_i k hu
      obtain ⟨z, rfl⟩ := okWide_int hu h
      rw [hu]
      exact ⟨fun h => (by cases h), fun _ => rfl⟩
    · rename_i hu
      obtain ⟨z, rfl⟩ := okWide_string hu h
      rw [hu]
      exact ⟨fun h => (by cases h), fun _ => rfl⟩
    · rename_i e hu
      obtain ⟨a, l, c, rfl⟩ := okWide_slice hu h
      rw [hu]
      exact ⟨fun h => (by cases h), fun _ => rfl⟩
    · rename_i fs hu
      obtain ⟨cs, rfl, _⟩ := okWide_struct hu h
      rw [hu]
      exact ⟨fun _ => by simp [Value.cells], fun h => by cases h⟩
    · rename_i m e hu
      have : ∃ cs, v = .agg cs := by
        unfold Value.okWide at h
        rw [hu] at h
        obtain ⟨cs, hc, _⟩ := h
        exact ⟨cs, hc⟩
      obtain ⟨cs, rfl⟩ := this
      rw [hu]
      exact ⟨fun _ => by simp [Value.cells], fun h => by cases h⟩
    · cases hd

theorem args_read {r : Reach} {n : Nat} : ∀ (ts : List TypeId) (params : List (Bool × List Kd)) (vs : List Value) (ds : List (DataW H)) (ps : List MemPlace), descAll P n ts = some params →
    (∀ (j : Nat) t v, ts[j]? = some t → vs[j]? = some v → Value.okWide P w r base t v) → DataW.TrodAll enc P w 0 spare held ts vs ds ps →
    ∃ dss, ArgsRd w params dss vs ∧ RngAll params dss
  | [], params, vs, ds, ps, hd, _, h => by
    simp only [descAll, Option.some.injEq] at hd
    subst hd
    obtain ⟨rfl, _, _⟩ := trodAll_nil h
    exact ⟨[], trivial, trivial⟩
  | t :: ts, params, vs, ds, ps, hd, hok, h => by
    unfold descAll at hd
    split at hd
    · rename_i ks l hks hl
      simp only [Option.some.injEq] at hd
      subst hd
      cases vs with
      | nil => simp [DataW.TrodAll] at h
      | cons v vs =>
        cases ds with
        | nil => simp [DataW.TrodAll] at h
        | cons d ds =>
          obtain ⟨p, q, ⟨m, hm⟩, h2, _⟩ := h
          obtain ⟨f, g1, g2⟩ := holds_of_trod n t ks hks m _ _ hm
          obtain ⟨dss, i1, i2⟩ := args_read ts l vs ds q hl (fun j t' v' ht hv => hok (j + 1) t' v' (by simpa using ht) (by simpa using hv)) h2
          obtain ⟨s1, s2⟩ := shape_of hks (hok 0 t v (by simp) (by simp))
          exact ⟨f :: dss, ⟨⟨g1, s1, s2⟩, i1⟩, g2, i2⟩
    · cases hd
end

section
variable {H : Type} {enc : TypeId × Value → H} {P : Program}

theorem said {fnum : FuncId} {f : Func} {s : ChangeSpec} {fresh handsOn again : Bool} {n : Nat} {params : List (Bool × List Kd)} {tb : TypeId}
    (hE : ∀ ro, CX.EnvOk (cxE ro) P) (hpure : ∀ ro, PureC0 (cxE ro) fnum ⟨params, [(false, [.bool])], false⟩ (RngAll params) trueRes) (hd : descAll P n f.params.toList = some params) (hl : laidOutB P = true)
    (hr : (f.params.toList.all fun t => P.readableRec t && decide (t < P.types.size)) = true) (hres : f.resultTypes = #[tb]) (hb : P.underlying tb = some .bool)
    (hs : ∀ ds : List (DataW H), ds.length = f.params.toList.length → s.fn H ds = ⟨[.lit (.bool true)], ds, []⟩) (hv : s.vars = []) {apart : Bool} (W : World) (base : Nat) (args : Array Value) (ds gs : List (DataW H)) (before : List MemPlace)
    (hval : ∀ (j : Nat) t v, f.params[j]? = some t → args[j]? = some v → Value.okWide P W .any base t v) (hW : DataW.Whole enc P f.params.toList s.vars apart W args.toList ds gs before) :
    Calls P fnum args W fun e W' => ∃ v, e = .returned v ∧ s.post enc P f apart fresh handsOn again W args v W' := by
  have hW' := hW
  obtain ⟨p, q, hA, hV, rfl, _, _⟩ := hW
  rw [hv] at hV
  obtain ⟨rfl, rfl⟩ := trodVars_none hV
  obtain ⟨dss, h1, h2⟩ := args_read (r := .any) (base := base) f.params.toList params args.toList ds p hd (fun j t v ht hv => hval j t v (by simpa using ht) (by simpa using hv)) hA
  have hlen := (trodAll_length hA).2
  have hfn : s.fn H (ds ++ []) = ⟨[.lit (.bool true)], ds, []⟩ := by rw [List.append_nil]; exact hs ds hlen
  obtain ⟨xs, x1, x2⟩ := args_fz (g := fun _ => none) (B := 0) (ρ := fun _ => none) (n := 0) params dss args.toList h1 h2
  obtain ⟨vs, h', nx', g', ⟨n0, hrun⟩, hresF⟩ := hpure (roOf W) dss h2 xs x1
  have hvs : vs = [.bool true] := by
    match vs, hresF with
    | [v], hresF =>
      obtain ⟨⟨x, _, e2, u, rfl, rfl⟩, _⟩ := hresF
      obtain ⟨u, e3, e4⟩ := e2 0 .bool rfl
      simp only [List.getElem?_cons_zero, Option.some.injEq] at e3
      subst e3
      simp only [FzC] at e4
      rw [e4.2]; rfl
    | [], hresF => simp [ResFz] at hresF
    | _ :: _ :: _, hresF => simp [ResFz] at hresF
  subst hvs
  have hcall := call_ro (hE (roOf W)) (w := W) (roOf_ok W) x2 (hrun n0 (Nat.le_refl _) retV)
  rw [show args.toList.toArray = args by simp] at hcall
  refine hcall.mono fun e W' h => ?_
  obtain ⟨u, ρ, m, rfl, hu, hk⟩ := h
  simp only [CX.one, Rv] at hu
  subst hu
  have hlt := hW'.lt
  simp only [List.append_nil] at hW' hlt
  refine ⟨_, rfl, CX.post_kept (pa := p) (pv := []) hW' (fun b sp hd => ?_) (fun sp hsp => ?_) (fun sp _ => ?_) (by simp) hk (ok_one hres rfl (okWide_bool_mk hb _))⟩
  · rw [hfn, hres]
    exact trodAll_mk1 (shut_bool hb _)
  · rw [hfn]
    exact HB.args_stay hl hr hA (fun x hx => HB.Kept_same hk (hlt x hx)) (fun x hx => hsp x hx)
  · rw [hfn, hv]
    rfl
end
end HX

namespace HX
open Go Go.Proofs
theorem own : ownKnob Try.prog.godebug = none := by kernel_rfl
theorem laid : laidOutB Try.prog = true := by kernel_rfl
end HX

namespace HX
open Go Go.Proofs CX

inductive Ctrs (E : CX.Env) : List Ctr → Prop
  | nil : Ctrs E []
  | cons {c : Ctr} {l : List Ctr} (h : PureC E c.f c.sg c.pre c.res) (r : Ctrs E l) : Ctrs E (c :: l)

theorem Ctrs.find {E : CX.Env} : ∀ {l : List Ctr}, Ctrs E l → ∀ {f : Nat} {sg : Sig}, sigL (sigs l) f = some sg → PureC E f sg (preOf l f) (resOf l f)
  | [], _, f, sg, h => by simp [sigL, sigs, look] at h
  | c :: l, .cons h1 h2, f, sg, h => by
    simp only [sigL, sigs, List.map_cons] at h
    rw [look_cons] at h
    split at h
    · rename_i e
      simp only [Option.some.injEq] at h
      subst e h
      have e1 : preOf (c :: l) c.f = c.pre := by funext ds; simp [preOf, ctrOf]
      have e2 : resOf (c :: l) c.f = c.res := by funext ds; simp [resOf, ctrOf]
      rw [e1, e2]; exact h1
    · rename_i e
      have e1 : preOf (c :: l) f = preOf l f := by funext ds; simp [preOf, ctrOf, e]
      have e2 : resOf (c :: l) f = resOf l f := by funext ds; simp [resOf, ctrOf, e]
      rw [e1, e2]
      exact h2.find h

theorem envL {ro : Addr → Option V} {l : List Ctr} (h : Ctrs (cxE ro) l) : EnvOk ⟨Ar.std, cxE ro, ksF, sigL (sigs l), preOf l, resOf l⟩ := hxEnv fun _ _ hs => h.find hs
end HX

namespace HX
open Go Go.Proofs CX

def wI (r : List D) : Int := (r.getD 0 .nil).int
theorem gt_wI (l : Rows) (q : Nat) : (gt l q 0).int = wI (l.getD q []) := rfl
theorem row_mem {l : Rows} {q : Nat} (h : q < l.length) : l.getD q [] ∈ l := by
  rw [List.getD_eq_getElem?_getD, List.getElem?_eq_getElem h]; exact List.getElem_mem h
theorem mem_row {l : Rows} {r : List D} (h : r ∈ l) : ∃ q, q < l.length ∧ l.getD q [] = r := by
  obtain ⟨q, hq, e⟩ := List.getElem_of_mem h
  exact ⟨q, hq, by rw [List.getD_eq_getElem?_getD, List.getElem?_eq_getElem hq]; exact e⟩
def rI (r : List D) : Int := (r.getD 1 .nil).int
theorem gt_rI (l : Rows) (q : Nat) : (gt l q 1).int = rI (l.getD q []) := rfl

def crE (b r : Int) : Int := if (0 ≤ b ∧ b ≤ 65536) ∧ 0 ≤ r ∧ r ≤ 1024 then 0 else 3
theorem crE_0 {b r : Int} : crE b r = 0 ↔ (0 ≤ b ∧ b ≤ 65536) ∧ 0 ≤ r ∧ r ≤ 1024 := by
  unfold crE
  split
  · exact ⟨fun _ => by assumption, fun _ => rfl⟩
  · exact ⟨fun h => (by cases h), fun h => (by contradiction)⟩
theorem crE_ne {b r : Int} (h : ¬ crE b r = 0) : crE b r = 3 := by
  unfold crE at h ⊢
  split at h
  · exact absurd rfl h
  · rw [if_neg (by assumption)]
def okC (l : Rows) : Prop := ∀ x ∈ l, crE (wI x) (rI x) = 0
open Classical in
noncomputable def allE (l : Rows) : Int := if okC l then 0 else 3
theorem allE_0 {l : Rows} : allE l = 0 ↔ okC l := by
  unfold allE
  split
  · exact ⟨fun _ => by assumption, fun _ => rfl⟩
  · exact ⟨fun h => (by cases h), fun h => (by contradiction)⟩
theorem allE_ne {l : Rows} (h : ¬ allE l = 0) : allE l = 3 := by
  unfold allE at h ⊢
  split at h
  · exact absurd rfl h
  · rw [if_neg (by assumption)]
theorem okC_row {l : Rows} (h : okC l) {q : Nat} (hq : q < l.length) : (0 ≤ wI (l.getD q []) ∧ wI (l.getD q []) ≤ 65536) ∧ 0 ≤ rI (l.getD q []) ∧ rI (l.getD q []) ≤ 1024 := crE_0.1 (h _ (row_mem hq))
end HX

namespace HX
open Go Go.Proofs CX

abbrev tI (l : Rows) (q : Nat) : Int := wI (l.getD q [])
theorem gt_tI (l : Rows) (q : Nat) : (gt l q 0).int = tI l q := rfl
theorem mulN {r w N : Int} (h1 : 0 ≤ r) (h2 : r ≤ 1024) (h3 : 0 ≤ w) (h4 : w ≤ N) : 0 ≤ r * w ∧ r * w ≤ 1024 * N :=
  ⟨Int.mul_nonneg h1 h3, Int.le_trans (Int.mul_le_mul_of_nonneg_right h2 h3) (Int.mul_le_mul_of_nonneg_left h4 (by omega))⟩
def inT (l : Rows) : Prop := ∀ j < l.length, 0 ≤ tI l j ∧ tI l j ≤ 10000
def srt (l : Rows) : Prop := ∀ j, j + 1 < l.length → tI l j ≤ tI l (j + 1)
open Classical in
noncomputable def tmE (l : Rows) : Int := if 1024 < (l.length : Int) then 9 else if ¬ inT l then 3 else if ¬ srt l then 2 else 0
theorem tmE_0 {l : Rows} (h : tmE l = 0) : (l.length : Int) ≤ 1024 ∧ inT l ∧ srt l := by
  unfold tmE at h
  split at h
  · cases h
  split at h
  · cases h
  split at h
  · cases h
  · rename_i h1 h2 h3
    exact ⟨by omega, Classical.not_not.1 h2, Classical.not_not.1 h3⟩

def ndE (l : Rows) (i k r : Int) : Int := 1024 * ((k - i) + 1) - r * ((tI l k.toNat - tI l i.toNat) + 1)
theorem ndE_nat (l : Rows) (i k : Nat) (r : Int) : ndE l i k r = 1024 * (((k : Int) - i) + 1) - r * ((tI l k - tI l i) + 1) := rfl

end HX

namespace HX
open Go Go.Proofs CX

abbrev lfE (r lv t la : Int) : Int := mxI 0 (lv - r * (t - la))
abbrev ovE (B r lf : Int) : Int := ((lf + 1024) - r) - B
abbrev wtE (r ov : Int) : Int := Int.tdiv ((ov + r) - 1) r
def stp (B r : Int) (out : Rows) (lv t la : Int) : Option (Rows × Int × Int) :=
  if 0 < ovE B r (lfE r lv t la) then
    if r = 0 ∨ B + r < 1024 then none
    else some (out ++ [[.i (t + wtE r (ovE B r (lfE r lv t la)))]], mxI 0 (lfE r lv t la - r * wtE r (ovE B r (lfE r lv t la))) + 1024, t + wtE r (ovE B r (lfE r lv t la)))
  else some (out ++ [[.i t]], lfE r lv t la + 1024, t)
def shp (l : Rows) (B r : Int) : Nat → Option (Rows × Int × Int)
  | 0 => some ([], 0, 0)
  | q + 1 => match shp l B r q with
    | none => none
    | some (out, lv, la) => stp B r out lv (mxI (tI l q) la) la
theorem shp_none {l : Rows} {B r : Int} {q : Nat} (h : shp l B r q = none) : ∀ n, q ≤ n → shp l B r n = none
  | 0, hn => by rw [← (show q = 0 by omega)]; exact h
  | n + 1, hn => by
    by_cases e : q = n + 1
    · rw [← e]; exact h
    · rw [shp, shp_none h n (by omega)]

theorem wt_ok {ov r : Int} (hr : 0 < r) (ho : 0 < ov) : (0 ≤ wtE r ov ∧ wtE r ov ≤ ov + r - 1) ∧ ov ≤ r * wtE r ov ∧ r * wtE r ov ≤ ov + r - 1 := by
  have e : wtE r ov = (ov + r - 1) / r := Int.tdiv_eq_ediv_of_nonneg (by omega)
  rw [e]
  have h1 := Int.mul_ediv_self_le (x := ov + r - 1) (k := r) (by omega)
  have h2 := Int.lt_mul_ediv_self_add (x := ov + r - 1) (k := r) hr
  have h3 : 0 ≤ (ov + r - 1) / r := Int.ediv_nonneg (by omega) (by omega)
  have h4 : (ov + r - 1) / r ≤ ov + r - 1 := Int.ediv_le_self _ (by omega)
  omega

theorem tI_old {out : Rows} {x : List D} {i : Nat} (h : i < out.length) : tI (out ++ [x]) i = tI out i := by
  show wI _ = wI _
  rw [List.getD_eq_getElem?_getD, List.getElem?_append_left h, List.getD_eq_getElem?_getD]
theorem tI_new {out : Rows} {T : Int} : tI (out ++ [[.i T]]) out.length = T := by
  show wI _ = T
  rw [List.getD_eq_getElem?_getD, List.getElem?_append_right (Nat.le_refl _), Nat.sub_self]
  rfl

structure Shp (r : Int) (q : Nat) (out : Rows) (lv la : Int) : Prop where
  len : out.length = q
  lv0 : 0 ≤ lv
  lv1 : lv ≤ 67584
  la0 : 0 ≤ la
  la1 : la ≤ 10000 + 70000 * q
  z : q = 0 → lv = 0 ∧ la = 0
  la_ : ∀ p, q = p + 1 → la = tI out p
  rng : ∀ i, i < q → 0 ≤ tI out i ∧ tI out i ≤ la
  up : ∀ i, i < q → 1024 * ((q : Int) - i) - r * (la - tI out i) ≤ lv
  at_ : 0 < lv → ∃ i, i < q ∧ lv = 1024 * ((q : Int) - i) - r * (la - tI out i)

theorem Shp.push {r : Int} (hr : 0 ≤ r) {q : Nat} {out : Rows} {lv la : Int} (h : Shp r q out lv la) {T lv' : Int} (h1 : la ≤ T) (h2 : T ≤ 10000 + 70000 * ((q : Int) + 1)) (h3 : lv' = max 0 (lv - r * (T - la)) + 1024) (h4 : lv' ≤ 67584) :
    Shp r (q + 1) (out ++ [[.i T]]) lv' T := by
  have hn := Int.mul_nonneg hr (show 0 ≤ T - la by omega)
  have hlen := h.len
  have old : ∀ i, i < q → tI (out ++ [[.i T]]) i = tI out i := fun i hi => tI_old (by omega)
  have new : tI (out ++ [[.i T]]) q = T := by rw [← hlen]; exact tI_new
  have := h.la0
  refine ⟨by simp [hlen], by omega, h4, by omega, by omega, fun e => by omega, fun p hp => ?_, fun i hi => ?_, fun i hi => ?_, fun _ => ?_⟩
  · rw [show p = q by omega, new]
  · by_cases e : i = q
    · rw [e, new]; omega
    · rw [old i (by omega)]; have := h.rng i (by omega); omega
  · by_cases e : i = q
    · rw [e, new, Int.sub_self, Int.mul_zero]; omega
    · rw [old i (by omega)]
      have := h.up i (by omega)
      simp only [Int.mul_sub] at this h3 ⊢
      omega
  · by_cases e : 0 < lv - r * (T - la)
    · obtain ⟨i, hi, hv⟩ := h.at_ (by omega)
      refine ⟨i, by omega, ?_⟩
      rw [old i hi]
      simp only [Int.mul_sub] at hv h3 e ⊢
      omega
    · refine ⟨q, by omega, ?_⟩
      rw [new, Int.sub_self, Int.mul_zero]
      omega

theorem shp_inv {l : Rows} {B r : Int} (hB : crE B r = 0) (hi : inT l) : ∀ q, q ≤ l.length → ∀ {out lv la}, shp l B r q = some (out, lv, la) → Shp r q out lv la
  | 0, _, out, lv, la, h => by
    simp only [shp, Option.some.injEq, Prod.mk.injEq] at h
    obtain ⟨rfl, rfl, rfl⟩ := h
    exact ⟨rfl, by omega, by omega, by omega, by omega, fun _ => ⟨rfl, rfl⟩, fun p hp => by omega, fun i hi => by omega, fun i hi => by omega, fun h => by omega⟩
  | q + 1, hq, out, lv, la, h => by
    have hc := crE_0.1 hB
    simp only [shp] at h
    split at h
    · cases h
    · rename_i o v a he
      have ih := shp_inv hB hi q (by omega) he
      have hl := hi q (by omega)
      have h0 := ih.la0
      have h1 := ih.la1
      have h2 := ih.lv1
      have ht : a ≤ mxI (tI l q) a ∧ mxI (tI l q) a ≤ 10000 + 70000 * q := by rw [mxI_eq]; omega
      have hm := Int.mul_nonneg hc.2.1 (show 0 ≤ mxI (tI l q) a - a by omega)
      simp only [stp] at h
      split at h
      · rename_i ho
        split at h
        · cases h
        · rename_i hn
          have hw := wt_ok (r := r) (by omega) ho
          simp only [Option.some.injEq, Prod.mk.injEq] at h
          obtain ⟨rfl, rfl, rfl⟩ := h
          have hv : ovE B r (lfE r v (mxI (tI l q) a) a) ≤ 68608 := by simp only [ovE, lfE, mxI_eq] at hm ⊢; omega
          refine ih.push hc.2.1 (by omega) (by omega) ?_ ?_
          · generalize wtE r (ovE B r (lfE r v (mxI (tI l q) a) a)) = w at hw ⊢
            have := hw.2.1
            simp only [Int.mul_sub, Int.mul_add, ovE, lfE, mxI_eq] at hw hm ho this ⊢
            omega
          · generalize wtE r (ovE B r (lfE r v (mxI (tI l q) a) a)) = w at hw ⊢
            have := hw.2.1
            simp only [Int.mul_sub, ovE, lfE, mxI_eq] at hm ho this ⊢
            omega
      · rename_i ho
        simp only [Option.some.injEq, Prod.mk.injEq] at h
        obtain ⟨rfl, rfl, rfl⟩ := h
        refine ih.push hc.2.1 (by omega) (by omega) (by simp only [ovE, lfE, mxI_eq]) ?_
        simp only [ovE, lfE, mxI_eq] at ho ⊢
        omega

structure Inn (l : Rows) (B r : Int) (q : Nat) (out : Rows) (p : Nat) (arr : Rows) (T lv la : Int) : Prop where
  sh : shp l B r q = some (out, lv, la)
  eq : arr = out ++ [[.i T]]
  t0 : mxI (tI l q) la ≤ T
  t1 : T ≤ mxI (tI l q) la + 70000
  ok : ∀ i, i < p → i < q → 1024 * ((q : Int) - i + 1) - r * (T - tI out i) ≤ B + r
  own : q < p → 1024 ≤ B + r
  min : T = mxI (tI l q) la ∨ ∃ i, i < q ∧ B + r < 1024 * ((q : Int) - i + 1) - r * (T - 1 - tI out i)

section
variable {l : Rows} {B r : Int} (hB : crE B r = 0) (hi : inT l) {q : Nat} (hq : q < l.length) {out arr : Rows} {p : Nat} {T lv la : Int} (h : Inn l B r q out p arr T lv la)
include hB hi hq h

theorem Inn.nd (hp : p < q) : ndE arr p q r = 1024 * ((q : Int) - p + 1) - r * (T - tI out p + 1) := by
  have iv := shp_inv hB hi q (by omega) h.sh
  have hl := iv.len
  rw [ndE_nat, h.eq, tI_old (i := p) (by omega), show tI (out ++ [[.i T]]) q = T by rw [← hl]; exact tI_new]
theorem Inn.nd' : ndE arr q q r = 1024 - r := by
  rw [ndE_nat, Int.sub_self, Int.sub_self, Int.zero_add, Int.mul_one, Int.mul_one]

theorem Inn.skip (hp : p ≤ q) (ho : ¬ 0 < ndE arr p q r - B) : Inn l B r q out (p + 1) arr T lv la := by
  refine ⟨h.sh, h.eq, h.t0, h.t1, fun i h1 h2 => ?_, fun hh => ?_, h.min⟩
  · by_cases e : i = p
    · subst e
      rw [h.nd hB hi hq h2] at ho
      simp only [Int.mul_sub, Int.mul_add, Int.mul_one] at ho ⊢
      omega
    · exact h.ok i (by omega) h2
  · have e : p = q := by omega
    subst e
    rw [h.nd' hB hi hq] at ho
    omega

theorem Inn.big (hp : p < q) (ho : 0 < ndE arr p q r - B) (hr : ¬ r = 0) {w : Int} (hw : w = wtE r (ndE arr p q r - B)) : T + w ≤ mxI (tI l q) la + 70000 ∧ 0 ≤ w ∧ r * w ≤ ndE arr p q r - B + r - 1 ∧ ndE arr p q r - B ≤ r * w := by
  have hc := crE_0.1 hB
  have iv := shp_inv hB hi q (by omega) h.sh
  have hk := wt_ok (r := r) (by omega) ho
  rw [← hw] at hk
  have h1 : 0 < w := by
    by_cases e : w = 0
    · rw [e, Int.mul_zero] at hk; omega
    · omega
  refine ⟨?_, by omega, hk.2.2, hk.2.1⟩
  have hu := iv.up p hp
  have hv := iv.lv1
  have ht := h.t0
  have hla : la ≤ mxI (tI l q) la := by rw [mxI_eq]; omega
  rw [h.nd hB hi hq hp] at hk
  have hx : 0 ≤ T + w - 1 - la := by omega
  have hy := Int.mul_le_mul_of_nonneg_right (show 1 ≤ r by omega) hx
  have hz : r * (T + w - 1 - la) ≤ 68608 := by
    simp only [Int.mul_sub, Int.mul_add, Int.mul_one] at hk hu ⊢
    omega
  omega

theorem Inn.raise (hp : p < q) (ho : 0 < ndE arr p q r - B) (hr : ¬ r = 0) {w : Int} (hw : w = wtE r (ndE arr p q r - B)) : Inn l B r q out (p + 1) (arr.set q [.i (tI arr q + w)]) (T + w) lv la := by
  have hc := crE_0.1 hB
  have iv := shp_inv hB hi q (by omega) h.sh
  have hl := iv.len
  obtain ⟨b1, b2, b3, b4⟩ := h.big hB hi hq hp ho hr hw
  have hn := h.nd hB hi hq hp
  rw [hn] at b3 b4
  have ht := h.t0
  have hT : tI arr q = T := by rw [h.eq, ← hl]; exact tI_new
  refine ⟨h.sh, ?_, by omega, b1, fun i h1 h2 => ?_, fun hh => by omega, .inr ⟨p, hp, ?_⟩⟩
  · rw [hT, h.eq, List.set_append, if_neg (by omega), hl, Nat.sub_self]
    rfl
  · have hk := Int.mul_nonneg hc.2.1 b2
    by_cases e : i = p
    · subst e
      simp only [Int.mul_sub, Int.mul_add, Int.mul_one] at b4 ⊢
      omega
    · have := h.ok i (by omega) h2
      simp only [Int.mul_sub, Int.mul_add, Int.mul_one] at this ⊢
      omega
  · simp only [Int.mul_sub, Int.mul_add, Int.mul_one] at b3 ⊢
    omega
end

theorem Inn.fin {l : Rows} {B r : Int} (hB : crE B r = 0) (hi : inT l) {q : Nat} (hq : q < l.length) {out arr : Rows} {T lv la : Int} (h : Inn l B r q out (q + 1) arr T lv la) : ∃ lv' la', shp l B r (q + 1) = some (arr, lv', la') := by
  have hc := crE_0.1 hB
  have iv := shp_inv hB hi q (by omega) h.sh
  have hown := h.own (by omega)
  have hok : ∀ i, i < q → 1024 * ((q : Int) - i + 1) - r * (T - tI out i) ≤ B + r := fun i hi => h.ok i (by omega) hi
  have ht0 := h.t0
  have heq := h.eq
  have hmin := h.min
  simp only [shp, h.sh, stp]
  have hla : la ≤ mxI (tI l q) la := by rw [mxI_eq]; omega
  generalize mxI (tI l q) la = t at ht0 hmin hla ⊢
  by_cases ho : 0 < ovE B r (lfE r lv t la)
  · have hlf : 0 < lv - r * (t - la) := by simp only [ovE, lfE, mxI_eq] at ho; omega
    have hlf' : lfE r lv t la = lv - r * (t - la) := by simp only [ovE, lfE, mxI_eq]; omega
    by_cases hr : r = 0
    · exfalso
      subst hr
      simp only [Int.zero_mul] at hlf hlf' hok
      obtain ⟨i, h1, h2⟩ := iv.at_ (by omega)
      have := hok i h1
      rw [hlf'] at ho
      simp only [Int.zero_mul, ovE] at h2 ho
      omega
    · rw [if_pos ho, if_neg (by omega)]
      have hw := wt_ok (r := r) (by omega) ho
      rw [hlf'] at ho hw ⊢
      generalize hwe : wtE r (ovE B r (lv - r * (t - la))) = w at hw ⊢
      have hlv : 0 < lv := by
        have := iv.lv0
        by_cases e : lv = 0
        · have hz := Int.mul_nonneg hc.2.1 (show 0 ≤ t - la by omega)
          omega
        · omega
      obtain ⟨i0, h1, h2⟩ := iv.at_ hlv
      have hT : T = t + w := by
        have k1 := hok i0 h1
        have lo : w < T - t + 1 := by
          refine Int.lt_of_mul_lt_mul_left (a := r) ?_ hc.2.1
          simp only [Int.mul_sub, Int.mul_add, Int.mul_one, ovE] at hw k1 h2 ⊢
          omega
        have hi' : T < t + w + 1 := by
          rcases hmin with e | ⟨i, g1, g2⟩
          · omega
          · have hu := iv.up i g1
            have : T - 1 < t + w := by
              refine Int.lt_of_mul_lt_mul_left (a := r) ?_ hc.2.1
              simp only [Int.mul_sub, Int.mul_add, Int.mul_one, ovE] at hw g2 hu ⊢
              omega
            omega
        omega
      rw [heq, hT]
      exact ⟨_, _, rfl⟩
  · rw [if_neg ho]
    have hT : T = t := by
      rcases hmin with e | ⟨i, g1, g2⟩
      · exact e
      · have hu := iv.up i g1
        have : T - 1 < t := by
          refine Int.lt_of_mul_lt_mul_left (a := r) ?_ hc.2.1
          simp only [ovE, lfE, mxI_eq] at ho
          simp only [Int.mul_sub, Int.mul_one] at ho g2 hu ⊢
          omega
        omega
    rw [heq, hT]
    exact ⟨_, _, rfl⟩
end HX

namespace HX
open Go Go.Proofs CX

def KpF (f : Nat → Int) (n : Nat) (B r : Int) : Prop := ∀ i k : Nat, i ≤ k → k < n → 1024 * (((k : Int) - i) + 1) - r * ((f k - f i) + 1) ≤ B

structure ShOk (l : Rows) (B r : Int) (n : Nat) (out : Rows) (lv la : Int) : Prop where
  inv : Shp r n out lv la
  top : 0 < n → lv ≤ B + r
  ge : ∀ i, i < n → tI l i ≤ tI out i
  up : ∀ i, i + 1 < n → tI out i ≤ tI out (i + 1)
  kp : KpF (tI out) n B r
  min : ∀ f : Nat → Int, (∀ i, i < n → tI l i ≤ f i) → (∀ i, i + 1 < n → f i ≤ f (i + 1)) → KpF f n B r → ∀ i, i < n → tI out i ≤ f i

theorem shp_ok {l : Rows} {B r : Int} (hB : crE B r = 0) (hi : inT l) : ∀ q, q ≤ l.length → ∀ {out lv la}, shp l B r q = some (out, lv, la) → ShOk l B r q out lv la
  | 0, _, out, lv, la, h => ⟨shp_inv hB hi 0 (by omega) h, fun h => by omega, fun i h => by omega, fun i h => by omega, fun i k _ h => by omega, fun f _ _ _ i h => by omega⟩
  | q + 1, hq, out, lv, la, h => by
    have hc := crE_0.1 hB
    have inv := shp_inv hB hi (q + 1) hq h
    simp only [shp] at h
    split at h
    · cases h
    · rename_i o v a he
      have ih := shp_ok hB hi q (by omega) he
      have iv := ih.inv
      have hlen := iv.len
      have hl := hi q (by omega)
      have hv0 := iv.lv0
      have ht : a ≤ mxI (tI l q) a ∧ tI l q ≤ mxI (tI l q) a ∧ (mxI (tI l q) a = tI l q ∨ mxI (tI l q) a = a) := by rw [mxI_eq]; omega
      simp only [stp] at h
      -- what is the same for both ends
      have both : ∀ T : Int, out = o ++ [[.i T]] → la = T → mxI (tI l q) a ≤ T → lv ≤ B + r →
          (∀ f : Nat → Int, (∀ i, i < q → tI o i ≤ f i) → KpF f (q + 1) B r → mxI (tI l q) a ≤ f q → T ≤ f q) → ShOk l B r (q + 1) out lv la := by
        intro T e1 e2 e3 e4 e5
        have old : ∀ i, i < q → tI out i = tI o i := fun i h => by rw [e1, tI_old (i := i) (by omega)]
        have new : tI out q = T := by rw [e1, ← hlen]; exact tI_new
        refine ⟨inv, fun _ => e4, fun i h => ?_, fun i h => ?_, fun i k h1 h2 => ?_, fun f f1 f2 f3 i h => ?_⟩
        · by_cases e : i = q
          · rw [e, new]; omega
          · rw [old i (by omega)]; exact ih.ge i (by omega)
        · by_cases e : i + 1 = q
          · rw [old i (by omega), e, new]
            have := iv.rng i (by omega)
            omega
          · rw [old i (by omega), old (i + 1) (by omega)]; exact ih.up i (by omega)
        · by_cases e : k = q
          · subst e
            have := inv.up i (by omega)
            rw [e2] at this
            rw [new]
            simp only [Int.mul_sub, Int.mul_add, Int.mul_one] at this ⊢
            omega
          · rw [old i (by omega), old k (by omega)]; exact ih.kp i k h1 (by omega)
        · have f4 : ∀ i, i < q → tI o i ≤ f i := ih.min f (fun i h => f1 i (by omega)) (fun i h => f2 i (by omega)) (fun i k a b => f3 i k a (by omega))
          by_cases e : i = q
          · rw [e, new]
            refine e5 f f4 f3 ?_
            have g1 := f1 q (by omega)
            rcases ht.2.2 with g | g
            · omega
            · rw [g]
              cases q with
              | zero => have := iv.z rfl; omega
              | succ p =>
                have g2 := iv.la_ p rfl
                have g3 := f4 p (by omega)
                have g4 := f2 p (by omega)
                omega
          · rw [old i (by omega)]; exact f4 i (by omega)
      generalize mxI (tI l q) a = t at h ht both
      split at h
      · rename_i ho
        split at h
        · cases h
        · rename_i hn
          have hw := wt_ok (r := r) (by omega) ho
          simp only [Option.some.injEq, Prod.mk.injEq] at h
          obtain ⟨e1, e2, e3⟩ := h
          have hlf : 0 < v - r * (t - a) := by simp only [ovE, lfE, mxI_eq] at ho; omega
          have hlf' : lfE r v t a = v - r * (t - a) := by simp only [lfE, mxI_eq]; omega
          rw [hlf'] at ho hw e1 e2 e3
          generalize hwe : wtE r (ovE B r (v - r * (t - a))) = w at hw e1 e2 e3
          refine both (t + w) e1.symm e3.symm (by omega) ?_ (fun f f4 f3 f5 => ?_)
          · rw [← e2]
            simp only [ovE, mxI_eq] at hw ⊢
            omega
          · have hz := Int.mul_nonneg hc.2.1 (show 0 ≤ t - a by omega)
            obtain ⟨i0, h1, h2⟩ := iv.at_ (by omega)
            have k1 := f3 i0 q (by omega) (by omega)
            have k2 := f4 i0 h1
            have k3 := Int.mul_le_mul_of_nonneg_left k2 hc.2.1
            have lo : w < f q - t + 1 := by
              refine Int.lt_of_mul_lt_mul_left (a := r) ?_ hc.2.1
              simp only [Int.mul_sub, Int.mul_add, Int.mul_one, ovE] at hw k1 h2 ⊢
              omega
            omega
      · rename_i ho
        simp only [Option.some.injEq, Prod.mk.injEq] at h
        obtain ⟨e1, e2, e3⟩ := h
        refine both t e1.symm e3.symm (by omega) ?_ (fun f f4 f3 f5 => f5)
        rw [← e2]
        simp only [ovE, lfE, mxI_eq] at ho ⊢
        omega

theorem shp_bad {l : Rows} {B r : Int} (hB : crE B r = 0) (hi : inT l) : ∀ q, q ≤ l.length → shp l B r q = none → 0 < q ∧ (B + r < 1024 ∨ (r = 0 ∧ B < 1024 * q))
  | 0, _, h => by simp only [shp] at h; cases h
  | q + 1, hq, h => by
    have hc := crE_0.1 hB
    refine ⟨by omega, ?_⟩
    simp only [shp] at h
    split at h
    · rename_i he
      have := shp_bad hB hi q (by omega) he
      omega
    · rename_i o v a he
      have iv := shp_inv hB hi q (by omega) he
      simp only [stp] at h
      split at h
      · rename_i ho
        split at h
        · rename_i hr
          by_cases e : B + r < 1024
          · exact .inl e
          · right
            have hr : r = 0 := by omega
            subst hr
            refine ⟨rfl, ?_⟩
            have hv0 := iv.lv0
            simp only [ovE, lfE, mxI_eq, Int.zero_mul] at ho
            by_cases e0 : 0 < v
            · obtain ⟨i, h1, h2⟩ := iv.at_ e0
              simp only [Int.zero_mul] at h2
              omega
            · omega
        · cases h
      · cases h
end HX

namespace HX
open Go Go.Proofs CX
structure V21 (a0 : Rows) (R : Nat → Nat → D) (I0 : Int → Int → Prop) (m0 : Int → Int → Nat) : Prop where
  i0 : I0 0 0
  g1 : ∀ x0_0 x0_1, I0 x0_0 x0_1 → (x0_1 < (a0.length : Int)) → 0 ≤ x0_1
  g2 : ∀ x0_0 x0_1, I0 x0_0 x0_1 → (x0_1 < (a0.length : Int)) → x0_1 < (a0.length : Int)
  g3 : ∀ x0_0 x0_1, I0 x0_0 x0_1 → (x0_1 < (a0.length : Int)) → (((Int.toNat x0_1 : Nat) : Int)) < (a0.length : Int)
  g4 : ∀ x0_0 x0_1, I0 x0_0 x0_1 → (x0_1 < (a0.length : Int)) → ((D.int (gt a0 x0_1.toNat 0)) < 0) → R 0 0 = D.i 3
  g5 : ∀ x0_0 x0_1, I0 x0_0 x0_1 → (x0_1 < (a0.length : Int)) → (¬ (D.int (gt a0 x0_1.toNat 0)) < 0) → (65536 < (D.int (gt a0 x0_1.toNat 0))) → R 0 0 = D.i 3
  g6 : ∀ x0_0 x0_1, I0 x0_0 x0_1 → (x0_1 < (a0.length : Int)) → (¬ (D.int (gt a0 x0_1.toNat 0)) < 0) → (¬ 65536 < (D.int (gt a0 x0_1.toNat 0))) → ((D.int (gt a0 x0_1.toNat 1)) < 0) → R 0 0 = D.i 3
  g7 : ∀ x0_0 x0_1, I0 x0_0 x0_1 → (x0_1 < (a0.length : Int)) → (¬ (D.int (gt a0 x0_1.toNat 0)) < 0) → (¬ 65536 < (D.int (gt a0 x0_1.toNat 0))) → (¬ (D.int (gt a0 x0_1.toNat 1)) < 0) → (1024 < (D.int (gt a0 x0_1.toNat 1))) → R 0 0 = D.i 3
  g8 : ∀ x0_0 x0_1, I0 x0_0 x0_1 → (x0_1 < (a0.length : Int)) → (¬ (D.int (gt a0 x0_1.toNat 0)) < 0) → (¬ 65536 < (D.int (gt a0 x0_1.toNat 0))) → (¬ (D.int (gt a0 x0_1.toNat 1)) < 0) → (¬ 1024 < (D.int (gt a0 x0_1.toNat 1))) → -9223372036854775808 ≤ (x0_1 + 1) ∧ (x0_1 + 1) ≤ 9223372036854775807
  n9 : ∀ x0_0 x0_1, I0 x0_0 x0_1 → (x0_1 < (a0.length : Int)) → (¬ (D.int (gt a0 x0_1.toNat 0)) < 0) → (¬ 65536 < (D.int (gt a0 x0_1.toNat 0))) → (¬ (D.int (gt a0 x0_1.toNat 1)) < 0) → (¬ 1024 < (D.int (gt a0 x0_1.toNat 1))) → I0 x0_0 (x0_1 + 1) ∧ m0 x0_0 (x0_1 + 1) < m0 x0_0 x0_1
  g10 : ∀ x0_0 x0_1, I0 x0_0 x0_1 → (¬ x0_1 < (a0.length : Int)) → R 0 0 = D.i 0
end HX

namespace HX
open Go Go.Proofs CX
structure V20 (pre : Nat → List (List D) → Prop) (fn : Nat → List (List D) → Nat → Nat → D) (a0_0 : Int) (a0_1 : Int) (R : Nat → Nat → D)  : Prop where
  g0 : pre 21 [[D.l [[D.i a0_0, D.i a0_1]]]]
  g1 : R 0 0 = D.i (D.int (fn 21 [[D.l [[D.i a0_0, D.i a0_1]]]] 0 0))
end HX

namespace HX
open Go Go.Proofs CX
structure V38 (a0 : Rows) (R : Nat → Nat → D) (I0 : Bool → Int → Prop) (m0 : Bool → Int → Nat) : Prop where
  g0 : -9223372036854775808 ≤ ((a0.length : Int) - 1) ∧ ((a0.length : Int) - 1) ≤ 9223372036854775807
  i0 : I0 false ((a0.length : Int) - 1)
  g2 : ∀ x0_0 x0_1, I0 x0_0 x0_1 → (0 < x0_1) → 0 ≤ x0_1
  g3 : ∀ x0_0 x0_1, I0 x0_0 x0_1 → (0 < x0_1) → x0_1 < (a0.length : Int)
  g4 : ∀ x0_0 x0_1, I0 x0_0 x0_1 → (0 < x0_1) → (((Int.toNat x0_1 : Nat) : Int)) < (a0.length : Int)
  g5 : ∀ x0_0 x0_1, I0 x0_0 x0_1 → (0 < x0_1) → -9223372036854775808 ≤ (x0_1 - 1) ∧ (x0_1 - 1) ≤ 9223372036854775807
  g6 : ∀ x0_0 x0_1, I0 x0_0 x0_1 → (0 < x0_1) → 0 ≤ (x0_1 - 1)
  g7 : ∀ x0_0 x0_1, I0 x0_0 x0_1 → (0 < x0_1) → (x0_1 - 1) < (a0.length : Int)
  g8 : ∀ x0_0 x0_1, I0 x0_0 x0_1 → (0 < x0_1) → (((Int.toNat (x0_1 - 1) : Nat) : Int)) < (a0.length : Int)
  g9 : ∀ x0_0 x0_1, I0 x0_0 x0_1 → (0 < x0_1) → (¬ (D.int (gt a0 x0_1.toNat 0)) = (D.int (gt a0 x0_1.toNat 0))) → ((D.int (gt a0 (Int.toNat (x0_1 - 1)) 0)) = (D.int (gt a0 (Int.toNat (x0_1 - 1)) 0))) → R 0 0 = D.b false
  g10 : ∀ x0_0 x0_1, I0 x0_0 x0_1 → (0 < x0_1) → (¬ (D.int (gt a0 x0_1.toNat 0)) = (D.int (gt a0 x0_1.toNat 0))) → (¬ (D.int (gt a0 (Int.toNat (x0_1 - 1)) 0)) = (D.int (gt a0 (Int.toNat (x0_1 - 1)) 0))) → ((D.int (gt a0 x0_1.toNat 0)) < (D.int (gt a0 (Int.toNat (x0_1 - 1)) 0))) → R 0 0 = D.b false
  g11 : ∀ x0_0 x0_1, I0 x0_0 x0_1 → (0 < x0_1) → (¬ (D.int (gt a0 x0_1.toNat 0)) = (D.int (gt a0 x0_1.toNat 0))) → (¬ (D.int (gt a0 (Int.toNat (x0_1 - 1)) 0)) = (D.int (gt a0 (Int.toNat (x0_1 - 1)) 0))) → (¬ (D.int (gt a0 x0_1.toNat 0)) < (D.int (gt a0 (Int.toNat (x0_1 - 1)) 0))) → -9223372036854775808 ≤ (x0_1 - 1) ∧ (x0_1 - 1) ≤ 9223372036854775807
  n12 : ∀ x0_0 x0_1, I0 x0_0 x0_1 → (0 < x0_1) → (¬ (D.int (gt a0 x0_1.toNat 0)) = (D.int (gt a0 x0_1.toNat 0))) → (¬ (D.int (gt a0 (Int.toNat (x0_1 - 1)) 0)) = (D.int (gt a0 (Int.toNat (x0_1 - 1)) 0))) → (¬ (D.int (gt a0 x0_1.toNat 0)) < (D.int (gt a0 (Int.toNat (x0_1 - 1)) 0))) → I0 x0_0 (x0_1 - 1) ∧ m0 x0_0 (x0_1 - 1) < m0 x0_0 x0_1
  g13 : ∀ x0_0 x0_1, I0 x0_0 x0_1 → (0 < x0_1) → ((D.int (gt a0 x0_1.toNat 0)) = (D.int (gt a0 x0_1.toNat 0))) → ((D.int (gt a0 x0_1.toNat 0)) < (D.int (gt a0 (Int.toNat (x0_1 - 1)) 0))) → R 0 0 = D.b false
  g14 : ∀ x0_0 x0_1, I0 x0_0 x0_1 → (0 < x0_1) → ((D.int (gt a0 x0_1.toNat 0)) = (D.int (gt a0 x0_1.toNat 0))) → (¬ (D.int (gt a0 x0_1.toNat 0)) < (D.int (gt a0 (Int.toNat (x0_1 - 1)) 0))) → -9223372036854775808 ≤ (x0_1 - 1) ∧ (x0_1 - 1) ≤ 9223372036854775807
  n15 : ∀ x0_0 x0_1, I0 x0_0 x0_1 → (0 < x0_1) → ((D.int (gt a0 x0_1.toNat 0)) = (D.int (gt a0 x0_1.toNat 0))) → (¬ (D.int (gt a0 x0_1.toNat 0)) < (D.int (gt a0 (Int.toNat (x0_1 - 1)) 0))) → I0 x0_0 (x0_1 - 1) ∧ m0 x0_0 (x0_1 - 1) < m0 x0_0 x0_1
  g16 : ∀ x0_0 x0_1, I0 x0_0 x0_1 → (¬ 0 < x0_1) → R 0 0 = D.b true
end HX

namespace HX
open Go Go.Proofs CX
structure V18 (pre : Nat → List (List D) → Prop) (fn : Nat → List (List D) → Nat → Nat → D) (a0 : Rows) (R : Nat → Nat → D) (I0 : Int → Int → Prop) (m0 : Int → Int → Nat) : Prop where
  g0 : (1024 < (a0.length : Int)) → R 0 0 = D.i 9
  i0 : (¬ 1024 < (a0.length : Int)) → I0 0 0
  g2 : ∀ x0_0 x0_1, I0 x0_0 x0_1 → (¬ 1024 < (a0.length : Int)) → (x0_1 < (a0.length : Int)) → 0 ≤ x0_1
  g3 : ∀ x0_0 x0_1, I0 x0_0 x0_1 → (¬ 1024 < (a0.length : Int)) → (x0_1 < (a0.length : Int)) → x0_1 < (a0.length : Int)
  g4 : ∀ x0_0 x0_1, I0 x0_0 x0_1 → (¬ 1024 < (a0.length : Int)) → (x0_1 < (a0.length : Int)) → (((Int.toNat x0_1 : Nat) : Int)) < (a0.length : Int)
  g5 : ∀ x0_0 x0_1, I0 x0_0 x0_1 → (¬ 1024 < (a0.length : Int)) → (x0_1 < (a0.length : Int)) → ((D.int (gt a0 x0_1.toNat 0)) < 0) → (0 ≤ x0_1) → R 0 0 = D.i 3
  g6 : ∀ x0_0 x0_1, I0 x0_0 x0_1 → (¬ 1024 < (a0.length : Int)) → (x0_1 < (a0.length : Int)) → ((D.int (gt a0 x0_1.toNat 0)) < 0) → (¬ 0 ≤ x0_1) → pre 38 [[D.l a0]]
  g7 : ∀ x0_0 x0_1, I0 x0_0 x0_1 → (¬ 1024 < (a0.length : Int)) → (x0_1 < (a0.length : Int)) → ((D.int (gt a0 x0_1.toNat 0)) < 0) → (¬ 0 ≤ x0_1) → (D.boo (fn 38 [[D.l a0]] 0 0) = false) → R 0 0 = D.i 2
  g8 : ∀ x0_0 x0_1, I0 x0_0 x0_1 → (¬ 1024 < (a0.length : Int)) → (x0_1 < (a0.length : Int)) → ((D.int (gt a0 x0_1.toNat 0)) < 0) → (¬ 0 ≤ x0_1) → (D.boo (fn 38 [[D.l a0]] 0 0) = true) → R 0 0 = D.i 0
  g9 : ∀ x0_0 x0_1, I0 x0_0 x0_1 → (¬ 1024 < (a0.length : Int)) → (x0_1 < (a0.length : Int)) → (¬ (D.int (gt a0 x0_1.toNat 0)) < 0) → (10000 < (D.int (gt a0 x0_1.toNat 0))) → (0 ≤ x0_1) → R 0 0 = D.i 3
  g10 : ∀ x0_0 x0_1, I0 x0_0 x0_1 → (¬ 1024 < (a0.length : Int)) → (x0_1 < (a0.length : Int)) → (¬ (D.int (gt a0 x0_1.toNat 0)) < 0) → (10000 < (D.int (gt a0 x0_1.toNat 0))) → (¬ 0 ≤ x0_1) → pre 38 [[D.l a0]]
  g11 : ∀ x0_0 x0_1, I0 x0_0 x0_1 → (¬ 1024 < (a0.length : Int)) → (x0_1 < (a0.length : Int)) → (¬ (D.int (gt a0 x0_1.toNat 0)) < 0) → (10000 < (D.int (gt a0 x0_1.toNat 0))) → (¬ 0 ≤ x0_1) → (D.boo (fn 38 [[D.l a0]] 0 0) = false) → R 0 0 = D.i 2
  g12 : ∀ x0_0 x0_1, I0 x0_0 x0_1 → (¬ 1024 < (a0.length : Int)) → (x0_1 < (a0.length : Int)) → (¬ (D.int (gt a0 x0_1.toNat 0)) < 0) → (10000 < (D.int (gt a0 x0_1.toNat 0))) → (¬ 0 ≤ x0_1) → (D.boo (fn 38 [[D.l a0]] 0 0) = true) → R 0 0 = D.i 0
  g13 : ∀ x0_0 x0_1, I0 x0_0 x0_1 → (¬ 1024 < (a0.length : Int)) → (x0_1 < (a0.length : Int)) → (¬ (D.int (gt a0 x0_1.toNat 0)) < 0) → (¬ 10000 < (D.int (gt a0 x0_1.toNat 0))) → -9223372036854775808 ≤ (x0_1 + 1) ∧ (x0_1 + 1) ≤ 9223372036854775807
  n14 : ∀ x0_0 x0_1, I0 x0_0 x0_1 → (¬ 1024 < (a0.length : Int)) → (x0_1 < (a0.length : Int)) → (¬ (D.int (gt a0 x0_1.toNat 0)) < 0) → (¬ 10000 < (D.int (gt a0 x0_1.toNat 0))) → I0 x0_0 (x0_1 + 1) ∧ m0 x0_0 (x0_1 + 1) < m0 x0_0 x0_1
  g16 : ∀ x0_0 x0_1, I0 x0_0 x0_1 → (¬ 1024 < (a0.length : Int)) → (¬ x0_1 < (a0.length : Int)) → pre 38 [[D.l a0]]
  g17 : ∀ x0_0 x0_1, I0 x0_0 x0_1 → (¬ 1024 < (a0.length : Int)) → (¬ x0_1 < (a0.length : Int)) → (D.boo (fn 38 [[D.l a0]] 0 0) = false) → R 0 0 = D.i 2
  g18 : ∀ x0_0 x0_1, I0 x0_0 x0_1 → (¬ 1024 < (a0.length : Int)) → (¬ x0_1 < (a0.length : Int)) → (D.boo (fn 38 [[D.l a0]] 0 0) = true) → R 0 0 = D.i 0
end HX

namespace HX
open Go Go.Proofs CX
structure V7 (pre : Nat → List (List D) → Prop) (fn : Nat → List (List D) → Nat → Nat → D) (a0 : Rows) (a1 : Int) (R : Nat → Nat → D) (I0 : Int → Int → Int → Int → Int → Prop) (m0 : Int → Int → Int → Int → Int → Nat) : Prop where
  g0 : (a1 < 0) → R 0 0 = D.i 0
  g1 : (a1 < 0) → R 1 0 = D.i 3
  g2 : (¬ a1 < 0) → (1024 < a1) → R 0 0 = D.i 0
  g3 : (¬ a1 < 0) → (1024 < a1) → R 1 0 = D.i 3
  g4 : (¬ a1 < 0) → (¬ 1024 < a1) → pre 18 [[D.l a0]]
  g5 : (¬ a1 < 0) → (¬ 1024 < a1) → (¬ (D.int (fn 18 [[D.l a0]] 0 0)) = 0) → R 0 0 = D.i 0
  g6 : (¬ a1 < 0) → (¬ 1024 < a1) → (¬ (D.int (fn 18 [[D.l a0]] 0 0)) = 0) → R 1 0 = D.i (D.int (fn 18 [[D.l a0]] 0 0))
  i0 : (¬ a1 < 0) → (¬ 1024 < a1) → ((D.int (fn 18 [[D.l a0]] 0 0)) = 0) → I0 0 0 a1 0 0
  g8 : ∀ x0_0 x0_1 x0_2 x0_3 x0_4, I0 x0_0 x0_1 x0_2 x0_3 x0_4 → (¬ a1 < 0) → (¬ 1024 < a1) → ((D.int (fn 18 [[D.l a0]] 0 0)) = 0) → (x0_1 < (a0.length : Int)) → 0 ≤ x0_1
  g9 : ∀ x0_0 x0_1 x0_2 x0_3 x0_4, I0 x0_0 x0_1 x0_2 x0_3 x0_4 → (¬ a1 < 0) → (¬ 1024 < a1) → ((D.int (fn 18 [[D.l a0]] 0 0)) = 0) → (x0_1 < (a0.length : Int)) → x0_1 < (a0.length : Int)
  g10 : ∀ x0_0 x0_1 x0_2 x0_3 x0_4, I0 x0_0 x0_1 x0_2 x0_3 x0_4 → (¬ a1 < 0) → (¬ 1024 < a1) → ((D.int (fn 18 [[D.l a0]] 0 0)) = 0) → (x0_1 < (a0.length : Int)) → (((Int.toNat x0_1 : Nat) : Int)) < (a0.length : Int)
  g11 : ∀ x0_0 x0_1 x0_2 x0_3 x0_4, I0 x0_0 x0_1 x0_2 x0_3 x0_4 → (¬ a1 < 0) → (¬ 1024 < a1) → ((D.int (fn 18 [[D.l a0]] 0 0)) = 0) → (x0_1 < (a0.length : Int)) → -9223372036854775808 ≤ ((D.int (gt a0 x0_1.toNat 0)) - x0_4) ∧ ((D.int (gt a0 x0_1.toNat 0)) - x0_4) ≤ 9223372036854775807
  g12 : ∀ x0_0 x0_1 x0_2 x0_3 x0_4, I0 x0_0 x0_1 x0_2 x0_3 x0_4 → (¬ a1 < 0) → (¬ 1024 < a1) → ((D.int (fn 18 [[D.l a0]] 0 0)) = 0) → (x0_1 < (a0.length : Int)) → -9223372036854775808 ≤ (x0_2 * ((D.int (gt a0 x0_1.toNat 0)) - x0_4)) ∧ (x0_2 * ((D.int (gt a0 x0_1.toNat 0)) - x0_4)) ≤ 9223372036854775807
  g13 : ∀ x0_0 x0_1 x0_2 x0_3 x0_4, I0 x0_0 x0_1 x0_2 x0_3 x0_4 → (¬ a1 < 0) → (¬ 1024 < a1) → ((D.int (fn 18 [[D.l a0]] 0 0)) = 0) → (x0_1 < (a0.length : Int)) → -9223372036854775808 ≤ (x0_3 - (x0_2 * ((D.int (gt a0 x0_1.toNat 0)) - x0_4))) ∧ (x0_3 - (x0_2 * ((D.int (gt a0 x0_1.toNat 0)) - x0_4))) ≤ 9223372036854775807
  g14 : ∀ x0_0 x0_1 x0_2 x0_3 x0_4, I0 x0_0 x0_1 x0_2 x0_3 x0_4 → (¬ a1 < 0) → (¬ 1024 < a1) → ((D.int (fn 18 [[D.l a0]] 0 0)) = 0) → (x0_1 < (a0.length : Int)) → -9223372036854775808 ≤ ((mxI 0 (x0_3 - (x0_2 * ((D.int (gt a0 x0_1.toNat 0)) - x0_4)))) + 1024) ∧ ((mxI 0 (x0_3 - (x0_2 * ((D.int (gt a0 x0_1.toNat 0)) - x0_4)))) + 1024) ≤ 9223372036854775807
  g15 : ∀ x0_0 x0_1 x0_2 x0_3 x0_4, I0 x0_0 x0_1 x0_2 x0_3 x0_4 → (¬ a1 < 0) → (¬ 1024 < a1) → ((D.int (fn 18 [[D.l a0]] 0 0)) = 0) → (x0_1 < (a0.length : Int)) → -9223372036854775808 ≤ (((mxI 0 (x0_3 - (x0_2 * ((D.int (gt a0 x0_1.toNat 0)) - x0_4)))) + 1024) - x0_2) ∧ (((mxI 0 (x0_3 - (x0_2 * ((D.int (gt a0 x0_1.toNat 0)) - x0_4)))) + 1024) - x0_2) ≤ 9223372036854775807
  g16 : ∀ x0_0 x0_1 x0_2 x0_3 x0_4, I0 x0_0 x0_1 x0_2 x0_3 x0_4 → (¬ a1 < 0) → (¬ 1024 < a1) → ((D.int (fn 18 [[D.l a0]] 0 0)) = 0) → (x0_1 < (a0.length : Int)) → -9223372036854775808 ≤ (x0_1 + 1) ∧ (x0_1 + 1) ≤ 9223372036854775807
  n17 : ∀ x0_0 x0_1 x0_2 x0_3 x0_4, I0 x0_0 x0_1 x0_2 x0_3 x0_4 → (¬ a1 < 0) → (¬ 1024 < a1) → ((D.int (fn 18 [[D.l a0]] 0 0)) = 0) → (x0_1 < (a0.length : Int)) → I0 (mxI x0_0 (mxI 0 (((mxI 0 (x0_3 - (x0_2 * ((D.int (gt a0 x0_1.toNat 0)) - x0_4)))) + 1024) - x0_2))) (x0_1 + 1) x0_2 ((mxI 0 (x0_3 - (x0_2 * ((D.int (gt a0 x0_1.toNat 0)) - x0_4)))) + 1024) (D.int (gt a0 x0_1.toNat 0)) ∧ m0 (mxI x0_0 (mxI 0 (((mxI 0 (x0_3 - (x0_2 * ((D.int (gt a0 x0_1.toNat 0)) - x0_4)))) + 1024) - x0_2))) (x0_1 + 1) x0_2 ((mxI 0 (x0_3 - (x0_2 * ((D.int (gt a0 x0_1.toNat 0)) - x0_4)))) + 1024) (D.int (gt a0 x0_1.toNat 0)) < m0 x0_0 x0_1 x0_2 x0_3 x0_4
  g18 : ∀ x0_0 x0_1 x0_2 x0_3 x0_4, I0 x0_0 x0_1 x0_2 x0_3 x0_4 → (¬ a1 < 0) → (¬ 1024 < a1) → ((D.int (fn 18 [[D.l a0]] 0 0)) = 0) → (¬ x0_1 < (a0.length : Int)) → R 0 0 = D.i x0_0
  g19 : ∀ x0_0 x0_1 x0_2 x0_3 x0_4, I0 x0_0 x0_1 x0_2 x0_3 x0_4 → (¬ a1 < 0) → (¬ 1024 < a1) → ((D.int (fn 18 [[D.l a0]] 0 0)) = 0) → (¬ x0_1 < (a0.length : Int)) → R 1 0 = D.i 0
end HX

namespace HX
open Go Go.Proofs CX
structure V10 (pre : Nat → List (List D) → Prop) (fn : Nat → List (List D) → Nat → Nat → D) (a0 : Rows) (a1_0 : Int) (a1_1 : Int) (R : Nat → Nat → D)  : Prop where
  g0 : pre 20 [[D.i a1_0, D.i a1_1]]
  g1 : (¬ (D.int (fn 20 [[D.i a1_0, D.i a1_1]] 0 0)) = 0) → R 0 0 = D.b false
  g2 : (¬ (D.int (fn 20 [[D.i a1_0, D.i a1_1]] 0 0)) = 0) → R 1 0 = D.i (D.int (fn 20 [[D.i a1_0, D.i a1_1]] 0 0))
  g3 : ((D.int (fn 20 [[D.i a1_0, D.i a1_1]] 0 0)) = 0) → pre 7 [[D.l a0], [D.i a1_1]]
  g4 : ((D.int (fn 20 [[D.i a1_0, D.i a1_1]] 0 0)) = 0) → ((D.int (fn 7 [[D.l a0], [D.i a1_1]] 1 0)) = 0) → R 0 0 = D.b (decide ((D.int (fn 7 [[D.l a0], [D.i a1_1]] 0 0)) ≤ a1_0))
  g5 : ((D.int (fn 20 [[D.i a1_0, D.i a1_1]] 0 0)) = 0) → ((D.int (fn 7 [[D.l a0], [D.i a1_1]] 1 0)) = 0) → R 1 0 = D.i (D.int (fn 7 [[D.l a0], [D.i a1_1]] 1 0))
  g6 : ((D.int (fn 20 [[D.i a1_0, D.i a1_1]] 0 0)) = 0) → (¬ (D.int (fn 7 [[D.l a0], [D.i a1_1]] 1 0)) = 0) → R 0 0 = D.b false
  g7 : ((D.int (fn 20 [[D.i a1_0, D.i a1_1]] 0 0)) = 0) → (¬ (D.int (fn 7 [[D.l a0], [D.i a1_1]] 1 0)) = 0) → R 1 0 = D.i (D.int (fn 7 [[D.l a0], [D.i a1_1]] 1 0))
end HX

namespace HX
open Go Go.Proofs CX
structure V12 (a0 : Rows) (a1 : Rows) (R : Nat → Nat → D) (I0 : Bool → Int → Prop) (m0 : Bool → Int → Nat) : Prop where
  g0 : (¬ (a0.length : Int) = (a1.length : Int)) → R 0 0 = D.b false
  i0 : ((a0.length : Int) = (a1.length : Int)) → I0 false 0
  g2 : ∀ x0_0 x0_1, I0 x0_0 x0_1 → ((a0.length : Int) = (a1.length : Int)) → (x0_1 < (a0.length : Int)) → 0 ≤ x0_1
  g3 : ∀ x0_0 x0_1, I0 x0_0 x0_1 → ((a0.length : Int) = (a1.length : Int)) → (x0_1 < (a0.length : Int)) → x0_1 < (a0.length : Int)
  g4 : ∀ x0_0 x0_1, I0 x0_0 x0_1 → ((a0.length : Int) = (a1.length : Int)) → (x0_1 < (a0.length : Int)) → (((Int.toNat x0_1 : Nat) : Int)) < (a0.length : Int)
  g6 : ∀ x0_0 x0_1, I0 x0_0 x0_1 → ((a0.length : Int) = (a1.length : Int)) → (x0_1 < (a0.length : Int)) → x0_1 < (a1.length : Int)
  g7 : ∀ x0_0 x0_1, I0 x0_0 x0_1 → ((a0.length : Int) = (a1.length : Int)) → (x0_1 < (a0.length : Int)) → (((Int.toNat x0_1 : Nat) : Int)) < (a1.length : Int)
  g8 : ∀ x0_0 x0_1, I0 x0_0 x0_1 → ((a0.length : Int) = (a1.length : Int)) → (x0_1 < (a0.length : Int)) → (¬ (D.int (gt a0 x0_1.toNat 0)) = (D.int (gt a1 x0_1.toNat 0))) → R 0 0 = D.b false
  g9 : ∀ x0_0 x0_1, I0 x0_0 x0_1 → ((a0.length : Int) = (a1.length : Int)) → (x0_1 < (a0.length : Int)) → ((D.int (gt a0 x0_1.toNat 0)) = (D.int (gt a1 x0_1.toNat 0))) → -9223372036854775808 ≤ (x0_1 + 1) ∧ (x0_1 + 1) ≤ 9223372036854775807
  n10 : ∀ x0_0 x0_1, I0 x0_0 x0_1 → ((a0.length : Int) = (a1.length : Int)) → (x0_1 < (a0.length : Int)) → ((D.int (gt a0 x0_1.toNat 0)) = (D.int (gt a1 x0_1.toNat 0))) → I0 x0_0 (x0_1 + 1) ∧ m0 x0_0 (x0_1 + 1) < m0 x0_0 x0_1
  g11 : ∀ x0_0 x0_1, I0 x0_0 x0_1 → ((a0.length : Int) = (a1.length : Int)) → (¬ x0_1 < (a0.length : Int)) → R 0 0 = D.b true
end HX

namespace HX
open Go Go.Proofs CX
structure V9 (a0 : Int) (a1 : Int) (R : Nat → Nat → D)  : Prop where
  g0 : R 0 0 = D.i a0
  g1 : R 0 1 = D.i a1
end HX

namespace HX
open Go Go.Proofs CX

theorem law9 {a0 a1 : Int} {R : Nat → Nat → D} (h0 : R 0 0 = .i a0) (h1 : R 0 1 = .i a1) : V9 a0 a1 R := by
  constructor
  · exact h0
  · exact h1

theorem law21 {a0 : Rows} (hlen : a0.length ≤ 9223372036854775807) {R : Nat → Nat → D} (hR : R 0 0 = .i (allE a0)) :
    V21 a0 R (fun _ i => ∃ q : Nat, i = q ∧ q ≤ a0.length ∧ ∀ j < q, crE (wI (a0.getD j [])) (rI (a0.getD j [])) = 0) (fun _ i => (a0.length - i).toNat) := by
  constructor
  all_goals (try (intro e i hI; obtain ⟨q, hx, hq, hj⟩ := hI; subst hx))
  all_goals (intros; (try simp only [gt_wI, gt_rI, Int.toNat_natCast] at *))
  all_goals (try omega)
  case i0 => exact ⟨0, rfl, by omega, fun j hj => by omega⟩
  case n9 =>
    refine ⟨⟨q + 1, by omega, by omega, fun j h => ?_⟩, by omega⟩
    by_cases e : j = q
    · subst e; exact crE_0.2 (by omega)
    · exact hj j (by omega)
  case g10 =>
    have h : okC a0 := fun x hx => by obtain ⟨j, h1, rfl⟩ := mem_row hx; exact hj j (by omega)
    rw [hR, allE_0.2 h]
  all_goals
    have h : ¬ okC a0 := fun h => by have := okC_row h (q := q) (by omega); omega
    rw [hR, allE, if_neg h]

theorem law20 {pre : Nat → List (List D) → Prop} {fn : Nat → List (List D) → Nat → Nat → D} (hp21 : ∀ x, pre 21 x) (hf21 : ∀ l, fn 21 [[.l l]] 0 0 = .i (allE l))
    {a0_0 a0_1 : Int} {R : Nat → Nat → D} (hR : R 0 0 = .i (crE a0_0 a0_1)) : V20 pre fn a0_0 a0_1 R := by
  have hi : ∀ n : Int, (D.i n).int = n := fun _ => rfl
  constructor
  · exact hp21 _
  · rw [hR, hf21, hi]
    congr 1
    by_cases h : crE a0_0 a0_1 = 0
    · rw [h, allE_0.2 (fun x hx => by simp only [List.mem_cons, List.not_mem_nil, or_false] at hx; subst hx; exact h)]
    · rw [crE_ne h, allE_ne (fun hh => h (allE_0.1 hh [.i a0_0, .i a0_1] (by simp)))]

open Classical in
theorem law38 {a0 : Rows} (hlen : a0.length ≤ 9223372036854775807) {R : Nat → Nat → D} (hR : R 0 0 = .b (decide (srt a0))) :
    V38 a0 R (fun _ i => (-1 ≤ i ∧ i ≤ (a0.length : Int) - 1) ∧ ∀ j : Nat, i ≤ j → j + 1 < a0.length → tI a0 j ≤ tI a0 (j + 1)) (fun _ i => i.toNat) := by
  constructor
  case i0 => exact ⟨by omega, fun j h1 h2 => by omega⟩
  case g0 => omega
  all_goals (intro e i hI; obtain ⟨⟨h1, h2⟩, h3⟩ := hI; intros; (try contradiction); (try omega); (try simp only [gt_tI] at *))
  case g13 =>
    rw [hR, decide_eq_false]
    intro hs
    have := hs (i - 1).toNat (by omega)
    rw [show (i - 1).toNat + 1 = i.toNat by omega] at this
    omega
  case n15 =>
    refine ⟨⟨by omega, fun j h4 h5 => ?_⟩, by omega⟩
    by_cases e : j = (i - 1).toNat
    · rw [show j + 1 = i.toNat by omega, e]; omega
    · exact h3 j (by omega) h5
  case g16 =>
    rw [hR, decide_eq_true]
    exact fun j hj => h3 j (by omega) hj

theorem tmE_9 {l : Rows} (h : 1024 < (l.length : Int)) : tmE l = 9 := by rw [tmE, if_pos h]
theorem tmE_3 {l : Rows} (h : ¬ 1024 < (l.length : Int)) (hi : ¬ inT l) : tmE l = 3 := by rw [tmE, if_neg h, if_pos hi]
theorem tmE_2 {l : Rows} (h : ¬ 1024 < (l.length : Int)) (hi : inT l) (hs : ¬ srt l) : tmE l = 2 := by rw [tmE, if_neg h, if_neg (fun h => h hi), if_pos hs]
theorem tmE_ok {l : Rows} (h : ¬ 1024 < (l.length : Int)) (hi : inT l) (hs : srt l) : tmE l = 0 := by rw [tmE, if_neg h, if_neg (fun h => h hi), if_neg (fun h => h hs)]

open Classical in
theorem law18 {pre : Nat → List (List D) → Prop} {fn : Nat → List (List D) → Nat → Nat → D} (hp38 : ∀ x, pre 38 x) (hf38 : ∀ l, fn 38 [[.l l]] 0 0 = .b (decide (srt l)))
    {a0 : Rows} (hlen : a0.length ≤ 9223372036854775807) {R : Nat → Nat → D} (hR : R 0 0 = .i (tmE a0)) :
    V18 pre fn a0 R (fun _ i => ∃ q : Nat, i = q ∧ q ≤ a0.length ∧ ∀ j < q, 0 ≤ tI a0 j ∧ tI a0 j ≤ 10000) (fun _ i => (a0.length - i).toNat) := by
  have hb : ∀ b : Bool, (D.b b).boo = b := fun _ => rfl
  constructor
  case g0 => intro h; rw [hR, tmE_9 h]
  case i0 => exact fun _ => ⟨0, rfl, by omega, fun j hj => by omega⟩
  all_goals (intro e i hI; obtain ⟨q, hx, hq, hj⟩ := hI; subst hx)
  all_goals (intros; (try simp only [gt_tI, Int.toNat_natCast, hf38, hb, decide_eq_false_iff_not, decide_eq_true_eq] at *))
  all_goals (try omega)
  all_goals (try exact hp38 _)
  case n14 =>
    refine ⟨⟨q + 1, by omega, by omega, fun j h => ?_⟩, by omega⟩
    by_cases e : j = q
    · subst e; constructor <;> omega
    · exact hj j (by omega)
  case g17 =>
    have hi : inT a0 := fun j h => hj j (by omega)
    rw [hR, tmE_2 (by omega) hi (by assumption)]
  case g18 =>
    have hi : inT a0 := fun j h => hj j (by omega)
    rw [hR, tmE_ok (by omega) hi (by assumption)]
  all_goals
    have hi : ¬ inT a0 := fun h => by have := h q (by omega); have := this.1; have := this; omega
    rw [hR, tmE_3 (by omega) hi]

theorem law12 {a0 : Rows} (hlen : a0.length ≤ 9223372036854775807) {R : Nat → Nat → D} (hR : R 0 0 = .b true) :
    V12 a0 a0 R (fun _ i => ∃ q : Nat, i = q ∧ q ≤ a0.length) (fun _ i => (a0.length - i).toNat) := by
  constructor
  case i0 => exact fun _ => ⟨0, rfl, by omega⟩
  case g0 => exact fun h => absurd rfl h
  all_goals (intro e i hI; obtain ⟨q, hx, hq⟩ := hI; subst hx; intros; (try contradiction); (try simp only [Int.toNat_natCast]))
  case n10 => exact ⟨⟨q + 1, by omega, by omega⟩, by omega⟩
  case g11 => exact hR
  all_goals omega
end HX

namespace HX
open Go Go.Proofs CX
abbrev v11a (x0_1 : Int) (a1_1 : Int) (a0 : Rows) (x0_3 : Int) (x0_2 : Int) (a1_0 : Int) := ((((mxI 0 (x0_1 - (a1_1 * ((mxI (D.int (gt a0 x0_3.toNat 0)) x0_2) - x0_2)))) + 1024) - a1_1) - a1_0)
abbrev v11b (fn : Nat → List (List D) → Nat → Nat → D) (a1_0 : Int) (a1_1 : Int) := ((D.int (fn 20 [[D.i a1_0, D.i a1_1]] 0 0)) = 0)
abbrev v11c (fn : Nat → List (List D) → Nat → Nat → D) (a0 : Rows) := ((D.int (fn 18 [[D.l a0]] 0 0)) = 0)
abbrev v11d (a0 : Rows) (x0_3 : Int) (x0_2 : Int) := (mxI (D.int (gt a0 x0_3.toNat 0)) x0_2)
abbrev v11e (x0_1 : Int) (a1_1 : Int) (a0 : Rows) (x0_3 : Int) (x0_2 : Int) (a1_0 : Int) := (Int.tdiv (((v11a x0_1 a1_1 a0 x0_3 x0_2 a1_0) + a1_1) - 1) a1_1)
structure V11 (pre : Nat → List (List D) → Prop) (fn : Nat → List (List D) → Nat → Nat → D) (a0 : Rows) (a1_0 : Int) (a1_1 : Int) (R : Nat → Nat → D) (I0 : Rows → Int → Int → Int → Prop) (m0 : Rows → Int → Int → Int → Nat) : Prop where
  g0 : pre 20 [[D.i a1_0, D.i a1_1]]
  g1 : (¬ (D.int (fn 20 [[D.i a1_0, D.i a1_1]] 0 0)) = 0) → R 0 0 = D.l []
  g2 : (¬ (D.int (fn 20 [[D.i a1_0, D.i a1_1]] 0 0)) = 0) → R 1 0 = D.i (D.int (fn 20 [[D.i a1_0, D.i a1_1]] 0 0))
  g3 : (v11b fn a1_0 a1_1) → pre 18 [[D.l a0]]
  g4 : (v11b fn a1_0 a1_1) → (¬ (D.int (fn 18 [[D.l a0]] 0 0)) = 0) → R 0 0 = D.l []
  g5 : (v11b fn a1_0 a1_1) → (¬ (D.int (fn 18 [[D.l a0]] 0 0)) = 0) → R 1 0 = D.i (D.int (fn 18 [[D.l a0]] 0 0))
  i0 : (v11b fn a1_0 a1_1) → (v11c fn a0) → I0 [] 0 0 0
  g7 : ∀ x0_0 x0_1 x0_2 x0_3, I0 x0_0 x0_1 x0_2 x0_3 → (v11b fn a1_0 a1_1) → (v11c fn a0) → (x0_3 < (a0.length : Int)) → 0 ≤ x0_3
  g8 : ∀ x0_0 x0_1 x0_2 x0_3, I0 x0_0 x0_1 x0_2 x0_3 → (v11b fn a1_0 a1_1) → (v11c fn a0) → (x0_3 < (a0.length : Int)) → x0_3 < (a0.length : Int)
  g9 : ∀ x0_0 x0_1 x0_2 x0_3, I0 x0_0 x0_1 x0_2 x0_3 → (v11b fn a1_0 a1_1) → (v11c fn a0) → (x0_3 < (a0.length : Int)) → (((Int.toNat x0_3 : Nat) : Int)) < (a0.length : Int)
  g10 : ∀ x0_0 x0_1 x0_2 x0_3, I0 x0_0 x0_1 x0_2 x0_3 → (v11b fn a1_0 a1_1) → (v11c fn a0) → (x0_3 < (a0.length : Int)) → -9223372036854775808 ≤ ((v11d a0 x0_3 x0_2) - x0_2) ∧ ((v11d a0 x0_3 x0_2) - x0_2) ≤ 9223372036854775807
  g11 : ∀ x0_0 x0_1 x0_2 x0_3, I0 x0_0 x0_1 x0_2 x0_3 → (v11b fn a1_0 a1_1) → (v11c fn a0) → (x0_3 < (a0.length : Int)) → -9223372036854775808 ≤ (a1_1 * ((v11d a0 x0_3 x0_2) - x0_2)) ∧ (a1_1 * ((v11d a0 x0_3 x0_2) - x0_2)) ≤ 9223372036854775807
  g12 : ∀ x0_0 x0_1 x0_2 x0_3, I0 x0_0 x0_1 x0_2 x0_3 → (v11b fn a1_0 a1_1) → (v11c fn a0) → (x0_3 < (a0.length : Int)) → -9223372036854775808 ≤ (x0_1 - (a1_1 * ((v11d a0 x0_3 x0_2) - x0_2))) ∧ (x0_1 - (a1_1 * ((v11d a0 x0_3 x0_2) - x0_2))) ≤ 9223372036854775807
  g13 : ∀ x0_0 x0_1 x0_2 x0_3, I0 x0_0 x0_1 x0_2 x0_3 → (v11b fn a1_0 a1_1) → (v11c fn a0) → (x0_3 < (a0.length : Int)) → -9223372036854775808 ≤ ((mxI 0 (x0_1 - (a1_1 * ((v11d a0 x0_3 x0_2) - x0_2)))) + 1024) ∧ ((mxI 0 (x0_1 - (a1_1 * ((v11d a0 x0_3 x0_2) - x0_2)))) + 1024) ≤ 9223372036854775807
  g14 : ∀ x0_0 x0_1 x0_2 x0_3, I0 x0_0 x0_1 x0_2 x0_3 → (v11b fn a1_0 a1_1) → (v11c fn a0) → (x0_3 < (a0.length : Int)) → -9223372036854775808 ≤ (((mxI 0 (x0_1 - (a1_1 * ((v11d a0 x0_3 x0_2) - x0_2)))) + 1024) - a1_1) ∧ (((mxI 0 (x0_1 - (a1_1 * ((v11d a0 x0_3 x0_2) - x0_2)))) + 1024) - a1_1) ≤ 9223372036854775807
  g15 : ∀ x0_0 x0_1 x0_2 x0_3, I0 x0_0 x0_1 x0_2 x0_3 → (v11b fn a1_0 a1_1) → (v11c fn a0) → (x0_3 < (a0.length : Int)) → -9223372036854775808 ≤ (v11a x0_1 a1_1 a0 x0_3 x0_2 a1_0) ∧ (v11a x0_1 a1_1 a0 x0_3 x0_2 a1_0) ≤ 9223372036854775807
  g16 : ∀ x0_0 x0_1 x0_2 x0_3, I0 x0_0 x0_1 x0_2 x0_3 → (v11b fn a1_0 a1_1) → (v11c fn a0) → (x0_3 < (a0.length : Int)) → (0 < (v11a x0_1 a1_1 a0 x0_3 x0_2 a1_0)) → (a1_1 = 0) → R 0 0 = D.l []
  g17 : ∀ x0_0 x0_1 x0_2 x0_3, I0 x0_0 x0_1 x0_2 x0_3 → (v11b fn a1_0 a1_1) → (v11c fn a0) → (x0_3 < (a0.length : Int)) → (0 < (v11a x0_1 a1_1 a0 x0_3 x0_2 a1_0)) → (a1_1 = 0) → R 1 0 = D.i 21
  g18 : ∀ x0_0 x0_1 x0_2 x0_3, I0 x0_0 x0_1 x0_2 x0_3 → (v11b fn a1_0 a1_1) → (v11c fn a0) → (x0_3 < (a0.length : Int)) → (0 < (v11a x0_1 a1_1 a0 x0_3 x0_2 a1_0)) → (¬ a1_1 = 0) → -9223372036854775808 ≤ (a1_0 + a1_1) ∧ (a1_0 + a1_1) ≤ 9223372036854775807
  g19 : ∀ x0_0 x0_1 x0_2 x0_3, I0 x0_0 x0_1 x0_2 x0_3 → (v11b fn a1_0 a1_1) → (v11c fn a0) → (x0_3 < (a0.length : Int)) → (0 < (v11a x0_1 a1_1 a0 x0_3 x0_2 a1_0)) → (¬ a1_1 = 0) → ((a1_0 + a1_1) < 1024) → R 0 0 = D.l []
  g20 : ∀ x0_0 x0_1 x0_2 x0_3, I0 x0_0 x0_1 x0_2 x0_3 → (v11b fn a1_0 a1_1) → (v11c fn a0) → (x0_3 < (a0.length : Int)) → (0 < (v11a x0_1 a1_1 a0 x0_3 x0_2 a1_0)) → (¬ a1_1 = 0) → ((a1_0 + a1_1) < 1024) → R 1 0 = D.i 21
  g21 : ∀ x0_0 x0_1 x0_2 x0_3, I0 x0_0 x0_1 x0_2 x0_3 → (v11b fn a1_0 a1_1) → (v11c fn a0) → (x0_3 < (a0.length : Int)) → (0 < (v11a x0_1 a1_1 a0 x0_3 x0_2 a1_0)) → (¬ a1_1 = 0) → (¬ (a1_0 + a1_1) < 1024) → -9223372036854775808 ≤ ((v11a x0_1 a1_1 a0 x0_3 x0_2 a1_0) + a1_1) ∧ ((v11a x0_1 a1_1 a0 x0_3 x0_2 a1_0) + a1_1) ≤ 9223372036854775807
  g22 : ∀ x0_0 x0_1 x0_2 x0_3, I0 x0_0 x0_1 x0_2 x0_3 → (v11b fn a1_0 a1_1) → (v11c fn a0) → (x0_3 < (a0.length : Int)) → (0 < (v11a x0_1 a1_1 a0 x0_3 x0_2 a1_0)) → (¬ a1_1 = 0) → (¬ (a1_0 + a1_1) < 1024) → -9223372036854775808 ≤ (((v11a x0_1 a1_1 a0 x0_3 x0_2 a1_0) + a1_1) - 1) ∧ (((v11a x0_1 a1_1 a0 x0_3 x0_2 a1_0) + a1_1) - 1) ≤ 9223372036854775807
  g23 : ∀ x0_0 x0_1 x0_2 x0_3, I0 x0_0 x0_1 x0_2 x0_3 → (v11b fn a1_0 a1_1) → (v11c fn a0) → (x0_3 < (a0.length : Int)) → (0 < (v11a x0_1 a1_1 a0 x0_3 x0_2 a1_0)) → (¬ a1_1 = 0) → (¬ (a1_0 + a1_1) < 1024) → a1_1 ≠ 0
  g24 : ∀ x0_0 x0_1 x0_2 x0_3, I0 x0_0 x0_1 x0_2 x0_3 → (v11b fn a1_0 a1_1) → (v11c fn a0) → (x0_3 < (a0.length : Int)) → (0 < (v11a x0_1 a1_1 a0 x0_3 x0_2 a1_0)) → (¬ a1_1 = 0) → (¬ (a1_0 + a1_1) < 1024) → -9223372036854775808 ≤ (v11e x0_1 a1_1 a0 x0_3 x0_2 a1_0) ∧ (v11e x0_1 a1_1 a0 x0_3 x0_2 a1_0) ≤ 9223372036854775807
  g25 : ∀ x0_0 x0_1 x0_2 x0_3, I0 x0_0 x0_1 x0_2 x0_3 → (v11b fn a1_0 a1_1) → (v11c fn a0) → (x0_3 < (a0.length : Int)) → (0 < (v11a x0_1 a1_1 a0 x0_3 x0_2 a1_0)) → (¬ a1_1 = 0) → (¬ (a1_0 + a1_1) < 1024) → -9223372036854775808 ≤ ((v11d a0 x0_3 x0_2) + (v11e x0_1 a1_1 a0 x0_3 x0_2 a1_0)) ∧ ((v11d a0 x0_3 x0_2) + (v11e x0_1 a1_1 a0 x0_3 x0_2 a1_0)) ≤ 9223372036854775807
  g26 : ∀ x0_0 x0_1 x0_2 x0_3, I0 x0_0 x0_1 x0_2 x0_3 → (v11b fn a1_0 a1_1) → (v11c fn a0) → (x0_3 < (a0.length : Int)) → (0 < (v11a x0_1 a1_1 a0 x0_3 x0_2 a1_0)) → (¬ a1_1 = 0) → (¬ (a1_0 + a1_1) < 1024) → -9223372036854775808 ≤ (a1_1 * (v11e x0_1 a1_1 a0 x0_3 x0_2 a1_0)) ∧ (a1_1 * (v11e x0_1 a1_1 a0 x0_3 x0_2 a1_0)) ≤ 9223372036854775807
  g27 : ∀ x0_0 x0_1 x0_2 x0_3, I0 x0_0 x0_1 x0_2 x0_3 → (v11b fn a1_0 a1_1) → (v11c fn a0) → (x0_3 < (a0.length : Int)) → (0 < (v11a x0_1 a1_1 a0 x0_3 x0_2 a1_0)) → (¬ a1_1 = 0) → (¬ (a1_0 + a1_1) < 1024) → -9223372036854775808 ≤ ((mxI 0 (x0_1 - (a1_1 * ((v11d a0 x0_3 x0_2) - x0_2)))) - (a1_1 * (v11e x0_1 a1_1 a0 x0_3 x0_2 a1_0))) ∧ ((mxI 0 (x0_1 - (a1_1 * ((v11d a0 x0_3 x0_2) - x0_2)))) - (a1_1 * (v11e x0_1 a1_1 a0 x0_3 x0_2 a1_0))) ≤ 9223372036854775807
  g28 : ∀ x0_0 x0_1 x0_2 x0_3, I0 x0_0 x0_1 x0_2 x0_3 → (v11b fn a1_0 a1_1) → (v11c fn a0) → (x0_3 < (a0.length : Int)) → (0 < (v11a x0_1 a1_1 a0 x0_3 x0_2 a1_0)) → (¬ a1_1 = 0) → (¬ (a1_0 + a1_1) < 1024) → (x0_0.length + (List.length ([[D.i ((v11d a0 x0_3 x0_2) + (v11e x0_1 a1_1 a0 x0_3 x0_2 a1_0))]] : Rows))) * 8 ≤ 4294967296 ∧ (x0_0.length + (List.length ([[D.i ((v11d a0 x0_3 x0_2) + (v11e x0_1 a1_1 a0 x0_3 x0_2 a1_0))]] : Rows))) ≤ 4294967296
  g29 : ∀ x0_0 x0_1 x0_2 x0_3, I0 x0_0 x0_1 x0_2 x0_3 → (v11b fn a1_0 a1_1) → (v11c fn a0) → (x0_3 < (a0.length : Int)) → (0 < (v11a x0_1 a1_1 a0 x0_3 x0_2 a1_0)) → (¬ a1_1 = 0) → (¬ (a1_0 + a1_1) < 1024) → -9223372036854775808 ≤ ((mxI 0 ((mxI 0 (x0_1 - (a1_1 * ((v11d a0 x0_3 x0_2) - x0_2)))) - (a1_1 * (v11e x0_1 a1_1 a0 x0_3 x0_2 a1_0)))) + 1024) ∧ ((mxI 0 ((mxI 0 (x0_1 - (a1_1 * ((v11d a0 x0_3 x0_2) - x0_2)))) - (a1_1 * (v11e x0_1 a1_1 a0 x0_3 x0_2 a1_0)))) + 1024) ≤ 9223372036854775807
  g30 : ∀ x0_0 x0_1 x0_2 x0_3, I0 x0_0 x0_1 x0_2 x0_3 → (v11b fn a1_0 a1_1) → (v11c fn a0) → (x0_3 < (a0.length : Int)) → (0 < (v11a x0_1 a1_1 a0 x0_3 x0_2 a1_0)) → (¬ a1_1 = 0) → (¬ (a1_0 + a1_1) < 1024) → -9223372036854775808 ≤ (x0_3 + 1) ∧ (x0_3 + 1) ≤ 9223372036854775807
  n31 : ∀ x0_0 x0_1 x0_2 x0_3, I0 x0_0 x0_1 x0_2 x0_3 → (v11b fn a1_0 a1_1) → (v11c fn a0) → (x0_3 < (a0.length : Int)) → (0 < (v11a x0_1 a1_1 a0 x0_3 x0_2 a1_0)) → (¬ a1_1 = 0) → (¬ (a1_0 + a1_1) < 1024) → I0 (x0_0 ++ [[D.i ((v11d a0 x0_3 x0_2) + (v11e x0_1 a1_1 a0 x0_3 x0_2 a1_0))]]) ((mxI 0 ((mxI 0 (x0_1 - (a1_1 * ((v11d a0 x0_3 x0_2) - x0_2)))) - (a1_1 * (v11e x0_1 a1_1 a0 x0_3 x0_2 a1_0)))) + 1024) ((v11d a0 x0_3 x0_2) + (v11e x0_1 a1_1 a0 x0_3 x0_2 a1_0)) (x0_3 + 1) ∧ m0 (x0_0 ++ [[D.i ((v11d a0 x0_3 x0_2) + (v11e x0_1 a1_1 a0 x0_3 x0_2 a1_0))]]) ((mxI 0 ((mxI 0 (x0_1 - (a1_1 * ((v11d a0 x0_3 x0_2) - x0_2)))) - (a1_1 * (v11e x0_1 a1_1 a0 x0_3 x0_2 a1_0)))) + 1024) ((v11d a0 x0_3 x0_2) + (v11e x0_1 a1_1 a0 x0_3 x0_2 a1_0)) (x0_3 + 1) < m0 x0_0 x0_1 x0_2 x0_3
  g32 : ∀ x0_0 x0_1 x0_2 x0_3, I0 x0_0 x0_1 x0_2 x0_3 → (v11b fn a1_0 a1_1) → (v11c fn a0) → (x0_3 < (a0.length : Int)) → (¬ 0 < (v11a x0_1 a1_1 a0 x0_3 x0_2 a1_0)) → (x0_0.length + (List.length ([[D.i (v11d a0 x0_3 x0_2)]] : Rows))) * 8 ≤ 4294967296 ∧ (x0_0.length + (List.length ([[D.i (v11d a0 x0_3 x0_2)]] : Rows))) ≤ 4294967296
  g33 : ∀ x0_0 x0_1 x0_2 x0_3, I0 x0_0 x0_1 x0_2 x0_3 → (v11b fn a1_0 a1_1) → (v11c fn a0) → (x0_3 < (a0.length : Int)) → (¬ 0 < (v11a x0_1 a1_1 a0 x0_3 x0_2 a1_0)) → -9223372036854775808 ≤ ((mxI 0 (x0_1 - (a1_1 * ((v11d a0 x0_3 x0_2) - x0_2)))) + 1024) ∧ ((mxI 0 (x0_1 - (a1_1 * ((v11d a0 x0_3 x0_2) - x0_2)))) + 1024) ≤ 9223372036854775807
  g34 : ∀ x0_0 x0_1 x0_2 x0_3, I0 x0_0 x0_1 x0_2 x0_3 → (v11b fn a1_0 a1_1) → (v11c fn a0) → (x0_3 < (a0.length : Int)) → (¬ 0 < (v11a x0_1 a1_1 a0 x0_3 x0_2 a1_0)) → -9223372036854775808 ≤ (x0_3 + 1) ∧ (x0_3 + 1) ≤ 9223372036854775807
  n35 : ∀ x0_0 x0_1 x0_2 x0_3, I0 x0_0 x0_1 x0_2 x0_3 → (v11b fn a1_0 a1_1) → (v11c fn a0) → (x0_3 < (a0.length : Int)) → (¬ 0 < (v11a x0_1 a1_1 a0 x0_3 x0_2 a1_0)) → I0 (x0_0 ++ [[D.i (v11d a0 x0_3 x0_2)]]) ((mxI 0 (x0_1 - (a1_1 * ((v11d a0 x0_3 x0_2) - x0_2)))) + 1024) (v11d a0 x0_3 x0_2) (x0_3 + 1) ∧ m0 (x0_0 ++ [[D.i (v11d a0 x0_3 x0_2)]]) ((mxI 0 (x0_1 - (a1_1 * ((v11d a0 x0_3 x0_2) - x0_2)))) + 1024) (v11d a0 x0_3 x0_2) (x0_3 + 1) < m0 x0_0 x0_1 x0_2 x0_3
  g36 : ∀ x0_0 x0_1 x0_2 x0_3, I0 x0_0 x0_1 x0_2 x0_3 → (v11b fn a1_0 a1_1) → (v11c fn a0) → (¬ x0_3 < (a0.length : Int)) → R 0 0 = D.l x0_0
  g37 : ∀ x0_0 x0_1 x0_2 x0_3, I0 x0_0 x0_1 x0_2 x0_3 → (v11b fn a1_0 a1_1) → (v11c fn a0) → (¬ x0_3 < (a0.length : Int)) → R 1 0 = D.i 0
end HX

namespace HX
open Go Go.Proofs CX

noncomputable def shE (l : Rows) (b r : Int) : Int := if crE b r = 0 then if tmE l = 0 then (match shp l b r l.length with | none => 21 | some _ => 0) else tmE l else crE b r
noncomputable def shL (l : Rows) (b r : Int) : Rows := if crE b r = 0 then if tmE l = 0 then (match shp l b r l.length with | none => [] | some (o, _, _) => o) else [] else []
theorem sh_none {l : Rows} {b r : Int} (hB : crE b r = 0) (hT : tmE l = 0) {q : Nat} (hq : q < l.length) (h : shp l b r (q + 1) = none) : shE l b r = 21 ∧ shL l b r = [] := by
  rw [shE, shL, if_pos hB, if_pos hT, if_pos hB, if_pos hT, shp_none h l.length (by omega)]
  exact ⟨rfl, rfl⟩
theorem sh_some {l : Rows} {b r : Int} (hB : crE b r = 0) (hT : tmE l = 0) {o : Rows} {lv la : Int} (h : shp l b r l.length = some (o, lv, la)) : shE l b r = 0 ∧ shL l b r = o := by
  rw [shE, shL, if_pos hB, if_pos hT, if_pos hB, if_pos hT, h]
  exact ⟨rfl, rfl⟩
theorem sh_c {l : Rows} {b r : Int} (h : ¬ crE b r = 0) : shE l b r = crE b r ∧ shL l b r = [] := by
  rw [shE, shL, if_neg h, if_neg h]
  exact ⟨rfl, rfl⟩
theorem sh_t {l : Rows} {b r : Int} (hB : crE b r = 0) (h : ¬ tmE l = 0) : shE l b r = tmE l ∧ shL l b r = [] := by
  rw [shE, shL, if_pos hB, if_neg h, if_pos hB, if_neg h]
  exact ⟨rfl, rfl⟩

theorem law11 {pre : Nat → List (List D) → Prop} {fn : Nat → List (List D) → Nat → Nat → D} (hp20 : ∀ x, pre 20 x) (hf20 : ∀ a b, fn 20 [[.i a, .i b]] 0 0 = .i (crE a b))
    (hp18 : ∀ x, pre 18 x) (hf18 : ∀ l, fn 18 [[.l l]] 0 0 = .i (tmE l))
    {a0 : Rows} {b r : Int} {R : Nat → Nat → D} (hR0 : R 0 0 = .l (shL a0 b r)) (hR1 : R 1 0 = .i (shE a0 b r)) :
    V11 pre fn a0 b r R (fun out lv la i => ∃ q : Nat, i = q ∧ q ≤ a0.length ∧ shp a0 b r q = some (out, lv, la)) (fun _ _ _ i => (a0.length - i).toNat) := by
  have hi : ∀ n : Int, (D.i n).int = n := fun _ => rfl
  constructor
  all_goals (try simp only [v11a, v11b, v11c, v11d, v11e, hf20, hf18, hi])
  case g0 => exact hp20 _
  case g3 => exact fun _ => hp18 _
  case g1 => intro h; rw [hR0, (sh_c h).2]
  case g2 => intro h; rw [hR1, (sh_c h).1]
  case g4 => intro h1 h2; rw [hR0, (sh_t h1 h2).2]
  case g5 => intro h1 h2; rw [hR1, (sh_t h1 h2).1]
  case i0 => exact fun _ _ => ⟨0, rfl, by omega, rfl⟩
  all_goals (intro out lv la i hI hB hT hx; obtain ⟨q, hx', hq, hs⟩ := hI; subst hx'; obtain ⟨hl, hin, hsr⟩ := tmE_0 hT; have iv := shp_inv hB hin q hq hs; have hc := crE_0.1 hB; (try simp only [gt_tI, Int.toNat_natCast]))
  case g36 =>
    rw [show q = a0.length by omega] at hs
    rw [hR0, (sh_some hB hT hs).2]
  case g37 =>
    rw [show q = a0.length by omega] at hs
    rw [hR1, (sh_some hB hT hs).1]
  case n31 =>
    intro ho h1 h2
    refine ⟨⟨q + 1, by omega, by omega, ?_⟩, by omega⟩
    simp only [shp, hs, stp]
    rw [if_pos ho, if_neg (by omega)]
  case n35 =>
    intro ho
    refine ⟨⟨q + 1, by omega, by omega, ?_⟩, by omega⟩
    simp only [shp, hs, stp]
    rw [if_neg ho]
  case g16 | g17 =>
    intro ho h1
    have hn : shp a0 b r (q + 1) = none := by
      simp only [shp, hs, stp]
      rw [if_pos ho, if_pos (Or.inl h1)]
    first | rw [hR0, (sh_none hB hT (by omega) hn).2] | rw [hR1, (sh_none hB hT (by omega) hn).1]
  case g19 | g20 =>
    intro ho h1 h2
    have hn : shp a0 b r (q + 1) = none := by
      simp only [shp, hs, stp]
      rw [if_pos ho, if_pos (Or.inr h2)]
    first | rw [hR0, (sh_none hB hT (by omega) hn).2] | rw [hR1, (sh_none hB hT (by omega) hn).1]
  all_goals
    have hu := hin q (by omega)
    have hlen := iv.len
    have k1 := iv.lv0
    have k2 := iv.lv1
    have k3 := iv.la0
    have k4 := iv.la1
    clear iv hs hsr hR0 hR1 hp20 hf20 hp18 hf18
    have ht : la ≤ mxI (tI a0 q) la ∧ mxI (tI a0 q) la ≤ la + 10000 := by rw [mxI_eq]; omega
    generalize mxI (tI a0 q) la = t at ht ⊢
    have hm := mulN hc.2.1 hc.2.2 (w := t - la) (N := 10000) (by omega) (by omega)
    (try simp only [mxI_eq, List.length_cons, List.length_nil])
  all_goals (try omega)
  all_goals
    intro ho h1 h2
    have hw := wt_ok (r := r) (by omega) ho
    have h0 := ho
    simp only [wtE, mxI_eq] at hw
    clear ho
    omega
end HX

namespace HX
open Go Go.Proofs CX
structure V6 (a0 : Rows) (R : Nat → Nat → D) (I0 : Int → Rows → Int → Prop) (m0 : Int → Rows → Int → Nat) : Prop where
  i0 : I0 0 [] 0
  g1 : ∀ x0_0 x0_1 x0_2, I0 x0_0 x0_1 x0_2 → (x0_2 < (a0.length : Int)) → 0 ≤ x0_2
  g2 : ∀ x0_0 x0_1 x0_2, I0 x0_0 x0_1 x0_2 → (x0_2 < (a0.length : Int)) → x0_2 < (a0.length : Int)
  g3 : ∀ x0_0 x0_1 x0_2, I0 x0_0 x0_1 x0_2 → (x0_2 < (a0.length : Int)) → (((Int.toNat x0_2 : Nat) : Int)) < (a0.length : Int)
  g4 : ∀ x0_0 x0_1 x0_2, I0 x0_0 x0_1 x0_2 → (x0_2 < (a0.length : Int)) → -9223372036854775808 ≤ (D.int (gt a0 x0_2.toNat 0)) ∧ (D.int (gt a0 x0_2.toNat 0)) ≤ 9223372036854775807
  g5 : ∀ x0_0 x0_1 x0_2, I0 x0_0 x0_1 x0_2 → (x0_2 < (a0.length : Int)) → (7 : Int) ≠ 0
  g6 : ∀ x0_0 x0_1 x0_2, I0 x0_0 x0_1 x0_2 → (x0_2 < (a0.length : Int)) → -9223372036854775808 ≤ (x0_0 + (Int.tmod (D.int (gt a0 x0_2.toNat 0)) 7)) ∧ (x0_0 + (Int.tmod (D.int (gt a0 x0_2.toNat 0)) 7)) ≤ 9223372036854775807
  g7 : ∀ x0_0 x0_1 x0_2, I0 x0_0 x0_1 x0_2 → (x0_2 < (a0.length : Int)) → (x0_1.length + (List.length ([[D.i (x0_0 + (Int.tmod (D.int (gt a0 x0_2.toNat 0)) 7))]] : Rows))) * 8 ≤ 4294967296 ∧ (x0_1.length + (List.length ([[D.i (x0_0 + (Int.tmod (D.int (gt a0 x0_2.toNat 0)) 7))]] : Rows))) ≤ 4294967296
  g8 : ∀ x0_0 x0_1 x0_2, I0 x0_0 x0_1 x0_2 → (x0_2 < (a0.length : Int)) → -9223372036854775808 ≤ (x0_2 + 1) ∧ (x0_2 + 1) ≤ 9223372036854775807
  n9 : ∀ x0_0 x0_1 x0_2, I0 x0_0 x0_1 x0_2 → (x0_2 < (a0.length : Int)) → I0 (x0_0 + (Int.tmod (D.int (gt a0 x0_2.toNat 0)) 7)) (x0_1 ++ [[D.i (x0_0 + (Int.tmod (D.int (gt a0 x0_2.toNat 0)) 7))]]) (x0_2 + 1) ∧ m0 (x0_0 + (Int.tmod (D.int (gt a0 x0_2.toNat 0)) 7)) (x0_1 ++ [[D.i (x0_0 + (Int.tmod (D.int (gt a0 x0_2.toNat 0)) 7))]]) (x0_2 + 1) < m0 x0_0 x0_1 x0_2
  g10 : ∀ x0_0 x0_1 x0_2, I0 x0_0 x0_1 x0_2 → (¬ x0_2 < (a0.length : Int)) → R 0 0 = D.l x0_1
end HX

namespace HX
open Go Go.Proofs CX
structure V8 (a0 : Rows) (a1_0 : Int) (a1_1 : Int) (R : Nat → Nat → D) (I0 : Bool → Int → Prop) (m0 : Bool → Int → Nat) (I1 : Bool → Int → Bool → Int → Prop) (m1 : Bool → Int → Bool → Int → Nat) : Prop where
  i0 : I0 false 0
  i1 : ∀ x0_0 x0_1, I0 x0_0 x0_1 → (x0_1 < (a0.length : Int)) → I1 x0_0 x0_1 x0_0 x0_1
  g2 : ∀ x0_0 x0_1, I0 x0_0 x0_1 → ∀ x1_0 x1_1, I1 x0_0 x0_1 x1_0 x1_1 → (x0_1 < (a0.length : Int)) → (x1_1 < (a0.length : Int)) → -9223372036854775808 ≤ (x1_1 - x0_1) ∧ (x1_1 - x0_1) ≤ 9223372036854775807
  g3 : ∀ x0_0 x0_1, I0 x0_0 x0_1 → ∀ x1_0 x1_1, I1 x0_0 x0_1 x1_0 x1_1 → (x0_1 < (a0.length : Int)) → (x1_1 < (a0.length : Int)) → -9223372036854775808 ≤ ((x1_1 - x0_1) + 1) ∧ ((x1_1 - x0_1) + 1) ≤ 9223372036854775807
  g4 : ∀ x0_0 x0_1, I0 x0_0 x0_1 → ∀ x1_0 x1_1, I1 x0_0 x0_1 x1_0 x1_1 → (x0_1 < (a0.length : Int)) → (x1_1 < (a0.length : Int)) → -9223372036854775808 ≤ (1024 * ((x1_1 - x0_1) + 1)) ∧ (1024 * ((x1_1 - x0_1) + 1)) ≤ 9223372036854775807
  g5 : ∀ x0_0 x0_1, I0 x0_0 x0_1 → ∀ x1_0 x1_1, I1 x0_0 x0_1 x1_0 x1_1 → (x0_1 < (a0.length : Int)) → (x1_1 < (a0.length : Int)) → 0 ≤ x1_1
  g6 : ∀ x0_0 x0_1, I0 x0_0 x0_1 → ∀ x1_0 x1_1, I1 x0_0 x0_1 x1_0 x1_1 → (x0_1 < (a0.length : Int)) → (x1_1 < (a0.length : Int)) → x1_1 < (a0.length : Int)
  g7 : ∀ x0_0 x0_1, I0 x0_0 x0_1 → ∀ x1_0 x1_1, I1 x0_0 x0_1 x1_0 x1_1 → (x0_1 < (a0.length : Int)) → (x1_1 < (a0.length : Int)) → (((Int.toNat x1_1 : Nat) : Int)) < (a0.length : Int)
  g8 : ∀ x0_0 x0_1, I0 x0_0 x0_1 → ∀ x1_0 x1_1, I1 x0_0 x0_1 x1_0 x1_1 → (x0_1 < (a0.length : Int)) → (x1_1 < (a0.length : Int)) → 0 ≤ x0_1
  g9 : ∀ x0_0 x0_1, I0 x0_0 x0_1 → ∀ x1_0 x1_1, I1 x0_0 x0_1 x1_0 x1_1 → (x0_1 < (a0.length : Int)) → (x1_1 < (a0.length : Int)) → x0_1 < (a0.length : Int)
  g10 : ∀ x0_0 x0_1, I0 x0_0 x0_1 → ∀ x1_0 x1_1, I1 x0_0 x0_1 x1_0 x1_1 → (x0_1 < (a0.length : Int)) → (x1_1 < (a0.length : Int)) → (((Int.toNat x0_1 : Nat) : Int)) < (a0.length : Int)
  g11 : ∀ x0_0 x0_1, I0 x0_0 x0_1 → ∀ x1_0 x1_1, I1 x0_0 x0_1 x1_0 x1_1 → (x0_1 < (a0.length : Int)) → (x1_1 < (a0.length : Int)) → -9223372036854775808 ≤ ((D.int (gt a0 x1_1.toNat 0)) - (D.int (gt a0 x0_1.toNat 0))) ∧ ((D.int (gt a0 x1_1.toNat 0)) - (D.int (gt a0 x0_1.toNat 0))) ≤ 9223372036854775807
  g12 : ∀ x0_0 x0_1, I0 x0_0 x0_1 → ∀ x1_0 x1_1, I1 x0_0 x0_1 x1_0 x1_1 → (x0_1 < (a0.length : Int)) → (x1_1 < (a0.length : Int)) → -9223372036854775808 ≤ (((D.int (gt a0 x1_1.toNat 0)) - (D.int (gt a0 x0_1.toNat 0))) + 1) ∧ (((D.int (gt a0 x1_1.toNat 0)) - (D.int (gt a0 x0_1.toNat 0))) + 1) ≤ 9223372036854775807
  g13 : ∀ x0_0 x0_1, I0 x0_0 x0_1 → ∀ x1_0 x1_1, I1 x0_0 x0_1 x1_0 x1_1 → (x0_1 < (a0.length : Int)) → (x1_1 < (a0.length : Int)) → -9223372036854775808 ≤ (a1_1 * (((D.int (gt a0 x1_1.toNat 0)) - (D.int (gt a0 x0_1.toNat 0))) + 1)) ∧ (a1_1 * (((D.int (gt a0 x1_1.toNat 0)) - (D.int (gt a0 x0_1.toNat 0))) + 1)) ≤ 9223372036854775807
  g14 : ∀ x0_0 x0_1, I0 x0_0 x0_1 → ∀ x1_0 x1_1, I1 x0_0 x0_1 x1_0 x1_1 → (x0_1 < (a0.length : Int)) → (x1_1 < (a0.length : Int)) → -9223372036854775808 ≤ (a1_0 + (a1_1 * (((D.int (gt a0 x1_1.toNat 0)) - (D.int (gt a0 x0_1.toNat 0))) + 1))) ∧ (a1_0 + (a1_1 * (((D.int (gt a0 x1_1.toNat 0)) - (D.int (gt a0 x0_1.toNat 0))) + 1))) ≤ 9223372036854775807
  g15 : ∀ x0_0 x0_1, I0 x0_0 x0_1 → ∀ x1_0 x1_1, I1 x0_0 x0_1 x1_0 x1_1 → (x0_1 < (a0.length : Int)) → (x1_1 < (a0.length : Int)) → ((a1_0 + (a1_1 * (((D.int (gt a0 x1_1.toNat 0)) - (D.int (gt a0 x0_1.toNat 0))) + 1))) < (1024 * ((x1_1 - x0_1) + 1))) → R 0 0 = D.b false
  g16 : ∀ x0_0 x0_1, I0 x0_0 x0_1 → ∀ x1_0 x1_1, I1 x0_0 x0_1 x1_0 x1_1 → (x0_1 < (a0.length : Int)) → (x1_1 < (a0.length : Int)) → (¬ (a1_0 + (a1_1 * (((D.int (gt a0 x1_1.toNat 0)) - (D.int (gt a0 x0_1.toNat 0))) + 1))) < (1024 * ((x1_1 - x0_1) + 1))) → -9223372036854775808 ≤ (x1_1 + 1) ∧ (x1_1 + 1) ≤ 9223372036854775807
  n17 : ∀ x0_0 x0_1, I0 x0_0 x0_1 → ∀ x1_0 x1_1, I1 x0_0 x0_1 x1_0 x1_1 → (x0_1 < (a0.length : Int)) → (x1_1 < (a0.length : Int)) → (¬ (a1_0 + (a1_1 * (((D.int (gt a0 x1_1.toNat 0)) - (D.int (gt a0 x0_1.toNat 0))) + 1))) < (1024 * ((x1_1 - x0_1) + 1))) → I1 x0_0 x0_1 x1_0 (x1_1 + 1) ∧ m1 x0_0 x0_1 x1_0 (x1_1 + 1) < m1 x0_0 x0_1 x1_0 x1_1
  g18 : ∀ x0_0 x0_1, I0 x0_0 x0_1 → ∀ x1_0 x1_1, I1 x0_0 x0_1 x1_0 x1_1 → (x0_1 < (a0.length : Int)) → (¬ x1_1 < (a0.length : Int)) → -9223372036854775808 ≤ (x0_1 + 1) ∧ (x0_1 + 1) ≤ 9223372036854775807
  n19 : ∀ x0_0 x0_1, I0 x0_0 x0_1 → ∀ x1_0 x1_1, I1 x0_0 x0_1 x1_0 x1_1 → (x0_1 < (a0.length : Int)) → (¬ x1_1 < (a0.length : Int)) → I0 x1_0 (x0_1 + 1) ∧ m0 x1_0 (x0_1 + 1) < m0 x0_0 x0_1
  g20 : ∀ x0_0 x0_1, I0 x0_0 x0_1 → (¬ x0_1 < (a0.length : Int)) → R 0 0 = D.b true
end HX

namespace HX
open Go Go.Proofs CX

def u8L (l : Rows) : Prop := ∀ r ∈ l, 0 ≤ wI r ∧ wI r ≤ 255
def risT (l : Rows) : Nat → Int
  | 0 => 0
  | q + 1 => risT l q + Int.tmod (tI l q) 7
def risP (l : Rows) (n : Nat) : Rows := (List.range n).map fun q => [.i (risT l (q + 1))]
theorem risP_len (l : Rows) (n : Nat) : (risP l n).length = n := by simp [risP]
theorem risP_succ (l : Rows) (n : Nat) : risP l (n + 1) = risP l n ++ [[.i (risT l n + Int.tmod (tI l n) 7)]] := by
  rw [risP, List.range_succ, List.map_append]
  rfl
theorem risP_t {l : Rows} {n q : Nat} (h : q < n) : tI (risP l n) q = risT l (q + 1) := by
  show wI _ = _
  rw [List.getD_eq_getElem?_getD, risP, List.getElem?_map, List.getElem?_range h]
  rfl
theorem ris_step {l : Rows} (hu : u8L l) {q : Nat} (h : q < l.length) : 0 ≤ Int.tmod (tI l q) 7 ∧ Int.tmod (tI l q) 7 ≤ 6 := by
  have := hu _ (row_mem h)
  rw [Int.tmod_eq_emod_of_nonneg this.1]
  omega
theorem risT_bd {l : Rows} (hu : u8L l) : ∀ q, q ≤ l.length → 0 ≤ risT l q ∧ risT l q ≤ 6 * q
  | 0, _ => ⟨Int.le_refl 0, Int.le_refl 0⟩
  | q + 1, h => by
    have ih := risT_bd hu q (by omega)
    have := ris_step hu (q := q) (by omega)
    rw [show risT l (q + 1) = risT l q + Int.tmod (tI l q) 7 from rfl]
    omega
theorem ris_ok {l : Rows} (hu : u8L l) (hl : l.length ≤ 60) : inT (risP l l.length) ∧ srt (risP l l.length) := by
  refine ⟨fun j hj => ?_, fun j hj => ?_⟩
  · rw [risP_len] at hj
    rw [risP_t hj]
    have := risT_bd hu (j + 1) (by omega)
    omega
  · rw [risP_len] at hj
    rw [risP_t hj, risP_t (q := j) (by omega)]
    have := ris_step hu (q := j + 1) (by omega)
    rw [show risT l (j + 1 + 1) = risT l (j + 1) + Int.tmod (tI l (j + 1)) 7 from rfl]
    omega

theorem law6 {a0 : Rows} (hu : u8L a0) (hl : a0.length ≤ 60) {R : Nat → Nat → D} (hR : R 0 0 = .l (risP a0 a0.length)) :
    V6 a0 R (fun t out i => ∃ q : Nat, i = q ∧ q ≤ a0.length ∧ t = risT a0 q ∧ out = risP a0 q) (fun _ _ i => (a0.length - i).toNat) := by
  constructor
  case i0 => exact ⟨0, rfl, by omega, rfl, rfl⟩
  all_goals (intro t out i hI hx; obtain ⟨q, h1, h2, h3, h4⟩ := hI; subst h1 h3 h4; (try simp only [gt_tI, Int.toNat_natCast]))
  case g10 => rw [hR, show q = a0.length by omega]
  case n9 => exact ⟨⟨q + 1, by omega, by omega, rfl, (risP_succ a0 q).symm⟩, by omega⟩
  all_goals
    have hb := risT_bd hu q h2
    have hs := ris_step hu (q := q) (by omega)
    have hr := hu _ (row_mem (q := q) (l := a0) (by omega))
    (try simp only [List.length_cons, List.length_nil, risP_len])
    (try simp only [tI] at *)
    omega

def Kps (l : Rows) (b r : Int) : Prop := ∀ i k : Nat, i ≤ k → k < l.length → ndE l i k r ≤ b
open Classical in
noncomputable def kps (l : Rows) (b r : Int) : Bool := decide (Kps l b r)
open Classical in
theorem kps_t {l : Rows} {b r : Int} (h : Kps l b r) : kps l b r = true := by rw [kps, decide_eq_true h]
open Classical in
theorem kps_f {l : Rows} {b r : Int} (h : ¬ Kps l b r) : kps l b r = false := by rw [kps, decide_eq_false h]
def okK (l : Rows) (b r : Int) : Prop := (∀ j < l.length, 0 ≤ tI l j ∧ tI l j ≤ 1000000000) ∧ (l.length : Int) ≤ 1024 ∧ (0 ≤ r ∧ r ≤ 1024) ∧ -1000000000 ≤ b ∧ b ≤ 1000000000
theorem law8 {a0 : Rows} {b r : Int} (h : okK a0 b r) {R : Nat → Nat → D} (hR : R 0 0 = .b (kps a0 b r)) :
    V8 a0 b r R (fun _ i => ∃ q : Nat, i = q ∧ q ≤ a0.length ∧ ∀ i k : Nat, i ≤ k → k < a0.length → i < q → ndE a0 i k r ≤ b) (fun _ i => (a0.length - i).toNat)
      (fun _ i _ k => ∃ q p : Nat, i = q ∧ k = p ∧ q ≤ p ∧ p ≤ a0.length ∧ ∀ i k : Nat, i ≤ k → k < a0.length → (i < q ∨ (i = q ∧ k < p)) → ndE a0 i k r ≤ b) (fun _ _ _ k => (a0.length - k).toNat) := by
  obtain ⟨hin, hl, hr, hb⟩ := h
  constructor
  case i0 => exact ⟨0, rfl, by omega, fun i k _ _ h => by omega⟩
  all_goals (intro e i hI; obtain ⟨q, h1, h2, h3⟩ := hI; subst h1)
  case i1 => exact fun hx => ⟨q, q, rfl, rfl, Nat.le_refl _, h2, fun i k a b c => h3 i k a b (by omega)⟩
  case g20 => exact fun hx => by rw [hR, kps_t fun i k a b => h3 i k a b (by omega)]
  all_goals (intro e2 k hI2; obtain ⟨q', p, h4, h5, h6, h7, h8⟩ := hI2; subst h5; obtain rfl : q = q' := (by omega); intro hx hy; (try simp only [gt_tI, Int.toNat_natCast]))
  case g15 =>
    intro hz
    rw [hR, kps_f]
    intro hk
    have := hk q p h6 (by omega)
    rw [ndE_nat] at this
    omega
  case n17 =>
    intro hz
    refine ⟨⟨q, p + 1, rfl, by omega, by omega, by omega, fun i k a b c => ?_⟩, by omega⟩
    by_cases e : i = q ∧ k = p
    · rw [e.1, e.2, ndE_nat]; omega
    · exact h8 i k a b (by omega)
  case n19 => exact ⟨⟨q + 1, by omega, by omega, fun i k a b c => h8 i k a b (by omega)⟩, by omega⟩
  case g18 => omega
  case g16 => intro; omega
  all_goals
    have u1 := hin q (by omega)
    have u2 := hin p (by omega)
    have m1 := mulN hr.1 hr.2 (w := tI a0 p) u2.1 u2.2
    have m2 := mulN hr.1 hr.2 (w := tI a0 q) u1.1 u1.2
    (try simp only [Int.mul_sub, Int.mul_add, Int.mul_one])
    omega
end HX

namespace HX
open Go Go.Proofs CX

def One (l : Rows) : Prop := ∀ j < l.length, l.getD j [] = [.i (tI l j)]
theorem One.push {o : Rows} (h : One o) (T : Int) : One (o ++ [[.i T]]) := by
  intro j hj
  by_cases e : j < o.length
  · rw [tI_old e]
    have := h j e
    rw [List.getD_eq_getElem?_getD, List.getElem?_append_left e, ← List.getD_eq_getElem?_getD]
    exact this
  · have e : j = o.length := by simp at hj; omega
    subst e
    rw [tI_new, List.getD_eq_getElem?_getD, List.getElem?_append_right (Nat.le_refl _), Nat.sub_self]
    rfl
theorem one_ext {A B : Rows} (hl : A.length = B.length) (ha : One A) (hb : One B) (h : ∀ j < A.length, tI A j = tI B j) : A = B := by
  refine List.ext_getElem hl fun j h1 h2 => ?_
  have a := ha j h1
  have b := hb j h2
  rw [List.getD_eq_getElem?_getD, List.getElem?_eq_getElem h1] at a
  rw [List.getD_eq_getElem?_getD, List.getElem?_eq_getElem h2] at b
  have a : A[j] = [.i (tI A j)] := a
  have b : B[j] = [.i (tI B j)] := b
  rw [a, b, h j h1]
theorem shp_one {l : Rows} {B r : Int} : ∀ q {out lv la}, shp l B r q = some (out, lv, la) → One out
  | 0, out, lv, la, h => by
    simp only [shp, Option.some.injEq, Prod.mk.injEq] at h
    obtain ⟨rfl, _, _⟩ := h
    intro j hj
    simp at hj
  | q + 1, out, lv, la, h => by
    simp only [shp] at h
    split at h
    · cases h
    · rename_i o v a he
      have ih := shp_one q he
      simp only [stp] at h
      split at h
      · split at h
        · cases h
        · simp only [Option.some.injEq, Prod.mk.injEq] at h
          obtain ⟨rfl, _, _⟩ := h
          exact ih.push _
      · simp only [Option.some.injEq, Prod.mk.injEq] at h
        obtain ⟨rfl, _, _⟩ := h
        exact ih.push _
theorem risP_one (l : Rows) : ∀ n, One (risP l n)
  | 0 => fun j hj => by simp [risP] at hj
  | n + 1 => by rw [risP_succ]; exact (risP_one l n).push _

structure SF (T S : Rows) (b r : Int) : Prop where
  len : S.length = T.length
  bd : ∀ j < S.length, 0 ≤ tI S j ∧ tI S j ≤ 1000000000
  ge : ∀ i, i < T.length → tI T i ≤ tI S i
  up : ∀ i, i + 1 < T.length → tI S i ≤ tI S (i + 1)
  kp : Kps S b r
  min : ∀ O : Rows, O.length = T.length → (∀ i, i < T.length → tI T i ≤ tI O i) → (∀ i, i + 1 < T.length → tI O i ≤ tI O (i + 1)) → Kps O b r → ∀ i, i < T.length → tI S i ≤ tI O i
  same : Kps T b r → T = S

theorem sh_facts {T : Rows} {b r : Int} (hB : crE b r = 0) (hT : tmE T = 0) (h1 : One T) :
    (shE T b r = 0 ∧ SF T (shL T b r) b r) ∨ (shE T b r = 21 ∧ 0 < T.length ∧ (b + r < 1024 ∨ (r = 0 ∧ b < 1024 * T.length))) := by
  obtain ⟨hl, hin, hsr⟩ := tmE_0 hT
  cases hs : shp T b r T.length with
  | none =>
    right
    obtain ⟨g1, g2⟩ := shp_bad hB hin T.length (Nat.le_refl _) hs
    refine ⟨?_, g1, g2⟩
    rw [shE, if_pos hB, if_pos hT, hs]
  | some x =>
    obtain ⟨S, lv, la⟩ := x
    left
    obtain ⟨e1, e2⟩ := sh_some hB hT hs
    refine ⟨e1, ?_⟩
    rw [e2]
    have ok := shp_ok hB hin T.length (Nat.le_refl _) hs
    have iv := ok.inv
    have hlen := iv.len
    have min : ∀ O : Rows, O.length = T.length → (∀ i, i < T.length → tI T i ≤ tI O i) → (∀ i, i + 1 < T.length → tI O i ≤ tI O (i + 1)) → Kps O b r → ∀ i, i < T.length → tI S i ≤ tI O i :=
      fun O o1 o2 o3 o4 => ok.min (tI O) o2 o3 (fun i k a c => by have := o4 i k a (by omega); rw [ndE_nat] at this; exact this)
    refine ⟨hlen, fun j hj => ?_, ok.ge, ok.up, fun i k a c => ?_, min, fun hk => ?_⟩
    · have := iv.rng j (by omega)
      have := iv.la1
      omega
    · have := ok.kp i k a (by omega)
      rw [ndE_nat]
      exact this
    · refine one_ext hlen.symm h1 (shp_one _ hs) fun j hj => ?_
      have a := ok.ge j hj
      have c := min T rfl (fun i _ => Int.le_refl _) (fun i h => hsr i h) hk j hj
      omega

structure Oth (T : Rows) (q : Nat) (o : Rows) : Prop where
  len : o.length = q
  ge : ∀ i, i < q → tI T i ≤ tI o i
  up : ∀ i, i + 1 < q → tI o i ≤ tI o (i + 1)
  bd : ∀ i, i < q → 0 ≤ tI o i ∧ tI o i ≤ 100000 * ((i : Int) + 1)
theorem oth_0 {T : Rows} : Oth T 0 [] := ⟨rfl, fun i h => by omega, fun i h => by omega, fun i h => by omega⟩
theorem Oth.push {T : Rows} {q : Nat} {o : Rows} (h : Oth T q o) {X : Int} (h0 : 0 ≤ X) (h1 : tI T q ≤ X) (h2 : ∀ p, q = p + 1 → tI o p ≤ X) (h3 : X ≤ 100000 * ((q : Int) + 1)) : Oth T (q + 1) (o ++ [[.i X]]) := by
  have hlen := h.len
  have old : ∀ i, i < q → tI (o ++ [[.i X]]) i = tI o i := fun i h => tI_old (by omega)
  have new : tI (o ++ [[.i X]]) q = X := by rw [← hlen]; exact tI_new
  refine ⟨by simp [hlen], fun i hi => ?_, fun i hi => ?_, fun i hi => ?_⟩
  · by_cases e : i = q
    · rw [e, new]; exact h1
    · rw [old i (by omega)]; exact h.ge i (by omega)
  · by_cases e : i + 1 = q
    · rw [old i (by omega), e, new]; exact h2 i e.symm
    · rw [old i (by omega), old (i + 1) (by omega)]; exact h.up i (by omega)
  · by_cases e : i = q
    · rw [e, new]; omega
    · rw [old i (by omega)]; exact h.bd i (by omega)

theorem law12' {a0 a1 : Rows} (h : a1 = a0) (hlen : a0.length ≤ 9223372036854775807) {R : Nat → Nat → D} (hR : R 0 0 = .b true) :
    V12 a0 a1 R (fun _ i => ∃ q : Nat, i = q ∧ q ≤ a0.length) (fun _ i => (a0.length - i).toNat) := by
  subst h
  exact law12 hlen hR
end HX
