/-
  CalcTimes: for all times, curves and rates, the function returns true, and its arguments read as they did.
-/
import Derived.Test.YtlijpmeeldoofaaGreatCalcTimes9
import Derived.Test.YtlijpmeeldoofaaGreatRows
set_option linter.all false
namespace HX
open Go Go.Proofs CX
set_option maxHeartbeats 4000000 in
set_option maxRecDepth 100000 in
theorem walk14 {ro A pre fn} (hE : EnvOk ⟨A, (cxE ro), ksF, sigL [], pre, fn⟩) {P : List (List D) → Prop} {res : List (List D) → Nat → Nat → D}
    (hv : ∀ (a0_0 : Int) (a0_1 : Int), P [[.i a0_0, .i a0_1]] → V14 a0_0 a0_1 (res [[.i a0_0, .i a0_1]]) ) :
    PureC (cxE ro) 14 ⟨[(true, [.int .i64, .int .i64])], [(false, [.int .i64])], false⟩ P res := by
  have hA := hE.A
  simp only [] at hA
  have hinl : ∀ f fn, inlL [] f = some fn → (cxE ro).fn f = some fn ∧ (cxE ro).ext f = none := Inls.ok (by repeat (first | exact .nil | refine .cons rfl rfl ?_))
  refine PureC.of_vc hE hinl 6 (f := 14) (fn := Tryz.f14) ⟨rfl, rfl⟩ ?_
  intro a0_0 a0_1 hP
  obtain ⟨R, hR⟩ : ∃ R, res [[.i a0_0, .i a0_1]] = R := ⟨_, rfl⟩
  rw [hR]
  have hV := hv a0_0 a0_1  hP
  rw [hR] at hV
  clear hR hP hv
  cbv
  repeat' (first | (refine Br.mk (fun _ => ?_) (fun _ => ?_) <;> cbv) | (refine NilB.mk (fun _ => ?_) ?_ <;> cbv) | refine And.intro ?_ ?_ | exact True.intro)
  · rename_i p0a
    subst hA; exact hV.g0 (dt p0a)
  · rename_i p1a p1b
    subst hA; exact hV.g1 (df p1a) (dt p1b)
  · rename_i p2a p2b p2c
    subst hA; exact hV.g2 (df p2a) (df p2b) (dt p2c)
  · rename_i p3a p3b p3c p3d
    subst hA; exact hV.g3 (df p3a) (df p3b) (df p3c) (dt p3d)
  · rename_i p4a p4b p4c p4d
    subst hA; exact hV.g4 (df p4a) (df p4b) (df p4c) (df p4d)
end HX

namespace HX
open Go Go.Proofs CX
set_option maxHeartbeats 4000000 in
set_option maxRecDepth 100000 in
theorem walk48 {ro A pre fn} (hE : EnvOk ⟨A, (cxE ro), ksF, sigL [], pre, fn⟩) {P : List (List D) → Prop} {res : List (List D) → Nat → Nat → D}
    (hv : ∀ (a0 : Rows), ShR [.int .i64, .int .i64] a0 → P [[.l a0]] → ∃ (I0 : Int → Int → Prop) (m0 : Int → Int → Nat), V48 a0 (res [[.l a0]]) I0 m0) :
    PureC (cxE ro) 48 ⟨[(false, [.sl [.int .i64, .int .i64]])], [(false, [.int .i64])], false⟩ P res := by
  have hA := hE.A
  simp only [] at hA
  have hinl : ∀ f fn, inlL [] f = some fn → (cxE ro).fn f = some fn ∧ (cxE ro).ext f = none := Inls.ok (by repeat (first | exact .nil | refine .cons rfl rfl ?_))
  refine PureC.of_vc hE hinl 6 (f := 48) (fn := Tryz.f48) ⟨rfl, rfl⟩ ?_
  intro a0 ha0 hP
  obtain ⟨R, hR⟩ : ∃ R, res [[.l a0]] = R := ⟨_, rfl⟩
  rw [hR]
  obtain ⟨I0, m0, hV⟩ := hv a0 ha0 hP
  rw [hR] at hV
  clear hR hP hv
  cbv
  repeat' (first | (refine Br.mk (fun _ => ?_) (fun _ => ?_) <;> cbv) | (refine NilB.mk (fun _ => ?_) ?_ <;> cbv) | refine And.intro ?_ ?_ | exact True.intro)
  · refine Leaf.gen fun σz hσz => ?_
    refine loopB hE hinl 6 [] [] [] (fun x : Int × Int => [.i x.1, .i x.2]) (fun x => I0 x.1 x.2) (fun x => m0 x.1 x.2) (0, 0) (by subst hA; exact hV.i0) ?_ ?_ <;> subst hσz
    · clear hE hinl hV; cbv; (try (repeat' (first | exact True.intro | rfl | assumption | apply And.intro)))
    · intro ⟨x0_0, x0_1⟩ hI0 K0 hK0
      cbv
      repeat' (first | (refine Br.mk (fun _ => ?_) (fun _ => ?_) <;> cbv) | (refine NilB.mk (fun _ => ?_) ?_ <;> cbv) | refine And.intro ?_ ?_ | exact True.intro)
      · rename_i p1a
        subst hA; exact hV.g1 _ _ hI0 (dt p1a)
      · rename_i p2a
        subst hA; exact hV.g2 _ _ hI0 (dt p2a)
      · rename_i p3a
        subst hA; exact hV.g3 _ _ hI0 (dt p3a)
      · rename_i p4a p4b
        subst hA; exact hV.g4 _ _ hI0 (dt p4a) (dt p4b)
      · rename_i p5a p5b p5c
        subst hA; exact hV.g5 _ _ hI0 (dt p5a) (df p5b) (dt p5c)
      · rename_i p6a p6b p6c p6d
        subst hA; exact hV.g6 _ _ hI0 (dt p6a) (df p6b) (df p6c) (dt p6d)
      · rename_i p7a p7b p7c p7d p7e
        subst hA; exact hV.g7 _ _ hI0 (dt p7a) (df p7b) (df p7c) (df p7d) (dt p7e)
      · rename_i p8a p8b p8c p8d p8e
        subst hA; exact hV.g8 _ _ hI0 (dt p8a) (df p8b) (df p8c) (df p8d) (df p8e)
      · rename_i p9a p9b p9c p9d p9e
        refine hK0 (x0_0, A.add x0_1 1) _ ?_ ?_ ?_
        · subst hA; exact (hV.n9 _ _ hI0 (dt p9a) (df p9b) (df p9c) (df p9d) (df p9e)).1
        · subst hA; exact (hV.n9 _ _ hI0 (dt p9a) (df p9b) (df p9c) (df p9d) (df p9e)).2
        · clear hE hinl hV hK0; cbv; (try (repeat' (first | exact True.intro | rfl | assumption | apply And.intro)))
      · rename_i p10a
        subst hA; exact hV.g10 _ _ hI0 (df p10a)
end HX

namespace HX
open Go Go.Proofs CX
set_option maxHeartbeats 4000000 in
set_option maxRecDepth 100000 in
theorem walk13 {ro A pre fn} (hE : EnvOk ⟨A, (cxE ro), ksF, sigL [(48, ⟨[(false, [.sl [.int .i64, .int .i64]])], [(false, [.int .i64])], false⟩)], pre, fn⟩) {P : List (List D) → Prop} {res : List (List D) → Nat → Nat → D}
    (hv : ∀ (a0_0 : Int) (a0_1 : Int), P [[.i a0_0, .i a0_1]] → V13 pre fn a0_0 a0_1 (res [[.i a0_0, .i a0_1]]) ) :
    PureC (cxE ro) 13 ⟨[(true, [.int .i64, .int .i64])], [(false, [.int .i64])], false⟩ P res := by
  have hA := hE.A
  simp only [] at hA
  have hinl : ∀ f fn, inlL [] f = some fn → (cxE ro).fn f = some fn ∧ (cxE ro).ext f = none := Inls.ok (by repeat (first | exact .nil | refine .cons rfl rfl ?_))
  refine PureC.of_vc hE hinl 6 (f := 13) (fn := Tryz.f13) ⟨rfl, rfl⟩ ?_
  intro a0_0 a0_1 hP
  obtain ⟨R, hR⟩ : ∃ R, res [[.i a0_0, .i a0_1]] = R := ⟨_, rfl⟩
  rw [hR]
  have hV := hv a0_0 a0_1  hP
  rw [hR] at hV
  clear hR hP hv
  cbv
  repeat' (first | (refine Br.mk (fun _ => ?_) (fun _ => ?_) <;> cbv) | (refine NilB.mk (fun _ => ?_) ?_ <;> cbv) | refine And.intro ?_ ?_ | exact True.intro)
  · subst hA; exact hV.g0
  · subst hA; exact hV.g1
end HX

namespace HX
open Go Go.Proofs CX
set_option maxHeartbeats 4000000 in
set_option maxRecDepth 100000 in
theorem walk87 {ro A pre fn} (hE : EnvOk ⟨A, (cxE ro), ksF, sigL [], pre, fn⟩) {P : List (List D) → Prop} {res : List (List D) → Nat → Nat → D}
    (hv : ∀ (a0 : Rows), ShR [.int .i64] a0 → P [[.l a0]] → ∃ (I0 : Bool → Int → Prop) (m0 : Bool → Int → Nat), V87 a0 (res [[.l a0]]) I0 m0) :
    PureC (cxE ro) 87 ⟨[(false, [.sl [.int .i64]])], [(false, [.bool])], false⟩ P res := by
  have hA := hE.A
  simp only [] at hA
  have hinl : ∀ f fn, inlL [(122, Tryz.f122), (109, Tryz.f109)] f = some fn → (cxE ro).fn f = some fn ∧ (cxE ro).ext f = none := Inls.ok (by repeat (first | exact .nil | refine .cons rfl rfl ?_))
  refine PureC.of_vc hE hinl 6 (f := 87) (fn := Tryz.f87) ⟨rfl, rfl⟩ ?_
  intro a0 ha0 hP
  obtain ⟨R, hR⟩ : ∃ R, res [[.l a0]] = R := ⟨_, rfl⟩
  rw [hR]
  obtain ⟨I0, m0, hV⟩ := hv a0 ha0 hP
  rw [hR] at hV
  clear hR hP hv
  cbv
  repeat' (first | (refine Br.mk (fun _ => ?_) (fun _ => ?_) <;> cbv) | (refine NilB.mk (fun _ => ?_) ?_ <;> cbv) | refine And.intro ?_ ?_ | exact True.intro)
  · subst hA; exact hV.g0
  · refine Leaf.gen fun σz hσz => ?_
    refine loopB hE hinl 6 [] [] [] (fun x : Bool × Int => [.b x.1, .i x.2]) (fun x => I0 x.1 x.2) (fun x => m0 x.1 x.2) (false, A.sub (A.nat (A.len a0)) 1) (by subst hA; exact hV.i0) ?_ ?_ <;> subst hσz
    · clear hE hinl hV; cbv; (try (repeat' (first | exact True.intro | rfl | assumption | apply And.intro)))
    · intro ⟨x0_0, x0_1⟩ hI0 K0 hK0
      cbv
      repeat' (first | (refine Br.mk (fun _ => ?_) (fun _ => ?_) <;> cbv) | (refine NilB.mk (fun _ => ?_) ?_ <;> cbv) | refine And.intro ?_ ?_ | exact True.intro)
      · rename_i p2a
        subst hA; exact hV.g2 _ _ hI0 (dt p2a)
      · rename_i p3a
        subst hA; exact hV.g3 _ _ hI0 (dt p3a)
      · rename_i p4a
        subst hA; exact hV.g4 _ _ hI0 (dt p4a)
      · rename_i p5a
        subst hA; exact hV.g5 _ _ hI0 (dt p5a)
      · rename_i p6a
        subst hA; exact hV.g6 _ _ hI0 (dt p6a)
      · rename_i p7a
        subst hA; exact hV.g7 _ _ hI0 (dt p7a)
      · rename_i p8a
        subst hA; exact hV.g8 _ _ hI0 (dt p8a)
      · rename_i p9a p9b p9c
        subst hA; exact hV.g9 _ _ hI0 (dt p9a) (df (nt p9b)) (dt (nf (nt p9c)))
      · rename_i p10a p10b p10c p10d
        subst hA; exact hV.g10 _ _ hI0 (dt p10a) (df (nt p10b)) (df (nt (nf p10c))) (dt p10d)
      · rename_i p11a p11b p11c p11d
        subst hA; exact hV.g11 _ _ hI0 (dt p11a) (df (nt p11b)) (df (nt (nf p11c))) (df p11d)
      · rename_i p12a p12b p12c p12d
        refine hK0 (x0_0, A.sub x0_1 1) _ ?_ ?_ ?_
        · subst hA; exact (hV.n12 _ _ hI0 (dt p12a) (df (nt p12b)) (df (nt (nf p12c))) (df p12d)).1
        · subst hA; exact (hV.n12 _ _ hI0 (dt p12a) (df (nt p12b)) (df (nt (nf p12c))) (df p12d)).2
        · clear hE hinl hV hK0; cbv; (try (repeat' (first | exact True.intro | rfl | assumption | apply And.intro)))
      · rename_i p13a p13b p13c
        subst hA; exact hV.g13 _ _ hI0 (dt p13a) (dt (nf p13b)) (dt p13c)
      · rename_i p14a p14b p14c
        subst hA; exact hV.g14 _ _ hI0 (dt p14a) (dt (nf p14b)) (df p14c)
      · rename_i p15a p15b p15c
        refine hK0 (x0_0, A.sub x0_1 1) _ ?_ ?_ ?_
        · subst hA; exact (hV.n15 _ _ hI0 (dt p15a) (dt (nf p15b)) (df p15c)).1
        · subst hA; exact (hV.n15 _ _ hI0 (dt p15a) (dt (nf p15b)) (df p15c)).2
        · clear hE hinl hV hK0; cbv; (try (repeat' (first | exact True.intro | rfl | assumption | apply And.intro)))
      · rename_i p16a
        subst hA; exact hV.g16 _ _ hI0 (df p16a)
end HX

namespace HX
open Go Go.Proofs CX
set_option maxHeartbeats 4000000 in
set_option maxRecDepth 100000 in
theorem walk49 {ro A pre fn} (hE : EnvOk ⟨A, (cxE ro), ksF, sigL [(87, ⟨[(false, [.sl [.int .i64]])], [(false, [.bool])], false⟩)], pre, fn⟩) {P : List (List D) → Prop} {res : List (List D) → Nat → Nat → D}
    (hv : ∀ (a0 : Rows), ShR [.int .i64] a0 → P [[.l a0]] → ∃ (I0 : Int → Int → Prop) (m0 : Int → Int → Nat), V49 pre fn a0 (res [[.l a0]]) I0 m0) :
    PureC (cxE ro) 49 ⟨[(false, [.sl [.int .i64]])], [(false, [.int .i64])], false⟩ P res := by
  have hA := hE.A
  simp only [] at hA
  have hinl : ∀ f fn, inlL [(85, Tryz.f85), (121, Tryz.f121), (86, Tryz.f86)] f = some fn → (cxE ro).fn f = some fn ∧ (cxE ro).ext f = none := Inls.ok (by repeat (first | exact .nil | refine .cons rfl rfl ?_))
  refine PureC.of_vc hE hinl 6 (f := 49) (fn := Tryz.f49) ⟨rfl, rfl⟩ ?_
  intro a0 ha0 hP
  obtain ⟨R, hR⟩ : ∃ R, res [[.l a0]] = R := ⟨_, rfl⟩
  rw [hR]
  obtain ⟨I0, m0, hV⟩ := hv a0 ha0 hP
  rw [hR] at hV
  clear hR hP hv
  cbv
  repeat' (first | (refine Br.mk (fun _ => ?_) (fun _ => ?_) <;> cbv) | (refine NilB.mk (fun _ => ?_) ?_ <;> cbv) | refine And.intro ?_ ?_ | exact True.intro)
  · rename_i p0a
    subst hA; exact hV.g0 (dt p0a)
  · rename_i p1a
    refine Leaf.gen fun σz hσz => ?_
    refine loopB hE hinl 6 [] [] [] (fun x : Int × Int => [.i x.1, .i x.2]) (fun x => I0 x.1 x.2) (fun x => m0 x.1 x.2) (0, 0) (by subst hA; exact hV.i0 (df p1a)) ?_ ?_ <;> subst hσz
    · clear hE hinl hV; cbv; (try (repeat' (first | exact True.intro | rfl | assumption | apply And.intro)))
    · intro ⟨x0_0, x0_1⟩ hI0 K0 hK0
      cbv
      repeat' (first | (refine Br.mk (fun _ => ?_) (fun _ => ?_) <;> cbv) | (refine NilB.mk (fun _ => ?_) ?_ <;> cbv) | refine And.intro ?_ ?_ | exact True.intro)
      · rename_i p2a
        subst hA; exact hV.g2 _ _ hI0 (df p1a) (dt p2a)
      · rename_i p3a
        subst hA; exact hV.g3 _ _ hI0 (df p1a) (dt p3a)
      · rename_i p4a
        subst hA; exact hV.g4 _ _ hI0 (df p1a) (dt p4a)
      · rename_i p5a p5b p5c
        subst hA; exact hV.g5 _ _ hI0 (df p1a) (dt p5a) (dt p5b) (dt p5c)
      · rename_i p6a p6b p6c
        subst hA; exact hV.g6 _ _ hI0 (df p1a) (dt p6a) (dt p6b) (df p6c)
      · rename_i p7a p7b p7c p7d
        subst hA; exact hV.g7 _ _ hI0 (df p1a) (dt p7a) (dt p7b) (df p7c) (nt p7d)
      · rename_i p8a p8b p8c p8d
        subst hA; exact hV.g8 _ _ hI0 (df p1a) (dt p8a) (dt p8b) (df p8c) (nf p8d)
      · rename_i p9a p9b p9c p9d
        subst hA; exact hV.g9 _ _ hI0 (df p1a) (dt p9a) (df p9b) (dt p9c) (dt p9d)
      · rename_i p10a p10b p10c p10d
        subst hA; exact hV.g10 _ _ hI0 (df p1a) (dt p10a) (df p10b) (dt p10c) (df p10d)
      · rename_i p11a p11b p11c p11d p11e
        subst hA; exact hV.g11 _ _ hI0 (df p1a) (dt p11a) (df p11b) (dt p11c) (df p11d) (nt p11e)
      · rename_i p12a p12b p12c p12d p12e
        subst hA; exact hV.g12 _ _ hI0 (df p1a) (dt p12a) (df p12b) (dt p12c) (df p12d) (nf p12e)
      · rename_i p13a p13b p13c
        subst hA; exact hV.g13 _ _ hI0 (df p1a) (dt p13a) (df p13b) (df p13c)
      · rename_i p14a p14b p14c
        refine hK0 (x0_0, A.add x0_1 1) _ ?_ ?_ ?_
        · subst hA; exact (hV.n14 _ _ hI0 (df p1a) (dt p14a) (df p14b) (df p14c)).1
        · subst hA; exact (hV.n14 _ _ hI0 (df p1a) (dt p14a) (df p14b) (df p14c)).2
        · clear hE hinl hV hK0; cbv; (try (repeat' (first | exact True.intro | rfl | assumption | apply And.intro)))
      · rename_i p15a p15b
        exfalso; subst hA; simp [Ar.std] at p15b
      · rename_i p16a p16b
        subst hA; exact hV.g16 _ _ hI0 (df p1a) (df p16a)
      · rename_i p17a p17b p17c
        subst hA; exact hV.g17 _ _ hI0 (df p1a) (df p17a) (nt p17c)
      · rename_i p18a p18b p18c
        subst hA; exact hV.g18 _ _ hI0 (df p1a) (df p18a) (nf p18c)
end HX

namespace HX
open Go Go.Proofs CX
set_option maxHeartbeats 4000000 in
set_option maxRecDepth 100000 in
theorem walk51 {ro A pre fn} (hE : EnvOk ⟨A, (cxE ro), ksF, sigL [], pre, fn⟩) {P : List (List D) → Prop} {res : List (List D) → Nat → Nat → D}
    (hv : ∀ (a0 : Rows), ShR [.int .i64] a0 → P [[.l a0]] → ∃ (I0 : Int → Int → Prop) (m0 : Int → Int → Nat) (I1 : Int → Int → Int → Int → Prop) (m1 : Int → Int → Int → Int → Nat), V51 a0 (res [[.l a0]]) I0 m0 I1 m1) :
    PureC (cxE ro) 51 ⟨[(false, [.sl [.int .i64]])], [(false, [.int .i64])], false⟩ P res := by
  have hA := hE.A
  simp only [] at hA
  have hinl : ∀ f fn, inlL [] f = some fn → (cxE ro).fn f = some fn ∧ (cxE ro).ext f = none := Inls.ok (by repeat (first | exact .nil | refine .cons rfl rfl ?_))
  refine PureC.of_vc hE hinl 6 (f := 51) (fn := Tryz.f51) ⟨rfl, rfl⟩ ?_
  intro a0 ha0 hP
  obtain ⟨R, hR⟩ : ∃ R, res [[.l a0]] = R := ⟨_, rfl⟩
  rw [hR]
  obtain ⟨I0, m0, I1, m1, hV⟩ := hv a0 ha0 hP
  rw [hR] at hV
  clear hR hP hv
  cbv
  repeat' (first | (refine Br.mk (fun _ => ?_) (fun _ => ?_) <;> cbv) | (refine NilB.mk (fun _ => ?_) ?_ <;> cbv) | refine And.intro ?_ ?_ | exact True.intro)
  · rename_i p0a
    subst hA; exact hV.g0 (dt p0a)
  · rename_i p1a
    refine Leaf.gen fun σz hσz => ?_
    refine loopB hE hinl 6 [] [] [] (fun x : Int × Int => [.i x.1, .i x.2]) (fun x => I0 x.1 x.2) (fun x => m0 x.1 x.2) (0, 0) (by subst hA; exact hV.i0 (df p1a)) ?_ ?_ <;> subst hσz
    · clear hE hinl hV; cbv; (try (repeat' (first | exact True.intro | rfl | assumption | apply And.intro)))
    · intro ⟨x0_0, x0_1⟩ hI0 K0 hK0
      cbv
      repeat' (first | (refine Br.mk (fun _ => ?_) (fun _ => ?_) <;> cbv) | (refine NilB.mk (fun _ => ?_) ?_ <;> cbv) | refine And.intro ?_ ?_ | exact True.intro)
      · rename_i p2a
        subst hA; exact hV.g2 _ _ hI0 (df p1a) (dt p2a)
      · rename_i p3a
        subst hA; exact hV.g3 _ _ hI0 (df p1a) (dt p3a)
      · rename_i p4a
        subst hA; exact hV.g4 _ _ hI0 (df p1a) (dt p4a)
      · rename_i p5a p5b
        subst hA; exact hV.g5 _ _ hI0 (df p1a) (dt p5a) (dt p5b)
      · rename_i p6a p6b
        subst hA; exact hV.g6 _ _ hI0 (df p1a) (dt p6a) (df p6b)
      · rename_i p7a p7b
        subst hA; exact hV.g7 _ _ hI0 (df p1a) (dt p7a) (df p7b)
      · rename_i p8a p8b
        subst hA; exact hV.g8 _ _ hI0 (df p1a) (dt p8a) (df p8b)
      · rename_i p9a p9b p9c
        subst hA; exact hV.g9 _ _ hI0 (df p1a) (dt p9a) (df p9b) (dt p9c)
      · rename_i p10a p10b p10c
        subst hA; exact hV.g10 _ _ hI0 (df p1a) (dt p10a) (df p10b) (df p10c)
      · rename_i p11a p11b p11c
        refine hK0 (x0_0, A.add x0_1 1) _ ?_ ?_ ?_
        · subst hA; exact (hV.n11 _ _ hI0 (df p1a) (dt p11a) (df p11b) (df p11c)).1
        · subst hA; exact (hV.n11 _ _ hI0 (df p1a) (dt p11a) (df p11b) (df p11c)).2
        · clear hE hinl hV hK0; cbv; (try (repeat' (first | exact True.intro | rfl | assumption | apply And.intro)))
      · rename_i p12a
        refine Leaf.gen fun σz hσz => ?_
        refine loopB hE hinl 6 [] [] [] (fun x : Int × Int => [.i x.1, .i x.2]) (fun x => I1 x0_0 x0_1 x.1 x.2) (fun x => m1 x0_0 x0_1 x.1 x.2) (x0_0, 1) (by subst hA; exact hV.i1 _ _ hI0 (df p1a) (df p12a)) ?_ ?_ <;> subst hσz
        · clear hE hinl hV; cbv; (try (repeat' (first | exact True.intro | rfl | assumption | apply And.intro)))
        · intro ⟨x1_0, x1_1⟩ hI1 K1 hK1
          cbv
          repeat' (first | (refine Br.mk (fun _ => ?_) (fun _ => ?_) <;> cbv) | (refine NilB.mk (fun _ => ?_) ?_ <;> cbv) | refine And.intro ?_ ?_ | exact True.intro)
          · rename_i p13a
            subst hA; exact hV.g13 _ _ hI0 _ _ hI1 (df p1a) (df p12a) (dt p13a)
          · rename_i p14a
            subst hA; exact hV.g14 _ _ hI0 _ _ hI1 (df p1a) (df p12a) (dt p14a)
          · rename_i p15a
            subst hA; exact hV.g15 _ _ hI0 _ _ hI1 (df p1a) (df p12a) (dt p15a)
          · rename_i p16a
            subst hA; exact hV.g16 _ _ hI0 _ _ hI1 (df p1a) (df p12a) (dt p16a)
          · rename_i p17a
            subst hA; exact hV.g17 _ _ hI0 _ _ hI1 (df p1a) (df p12a) (dt p17a)
          · rename_i p18a
            subst hA; exact hV.g18 _ _ hI0 _ _ hI1 (df p1a) (df p12a) (dt p18a)
          · rename_i p19a
            subst hA; exact hV.g19 _ _ hI0 _ _ hI1 (df p1a) (df p12a) (dt p19a)
          · rename_i p20a p20b
            subst hA; exact hV.g20 _ _ hI0 _ _ hI1 (df p1a) (df p12a) (dt p20a) (dt p20b)
          · rename_i p21a p21b
            subst hA; exact hV.g21 _ _ hI0 _ _ hI1 (df p1a) (df p12a) (dt p21a) (df p21b)
          · rename_i p22a p22b
            refine hK1 (x1_0, A.add x1_1 1) _ ?_ ?_ ?_
            · subst hA; exact (hV.n22 _ _ hI0 _ _ hI1 (df p1a) (df p12a) (dt p22a) (df p22b)).1
            · subst hA; exact (hV.n22 _ _ hI0 _ _ hI1 (df p1a) (df p12a) (dt p22a) (df p22b)).2
            · clear hE hinl hV hK1; cbv; (try (repeat' (first | exact True.intro | rfl | assumption | apply And.intro)))
          · rename_i p23a
            subst hA; exact hV.g23 _ _ hI0 _ _ hI1 (df p1a) (df p12a) (df p23a)
end HX

namespace HX
open Go Go.Proofs CX
set_option maxHeartbeats 4000000 in
set_option maxRecDepth 100000 in
theorem walk52 {ro A pre fn} (hE : EnvOk ⟨A, (cxE ro), ksF, sigL [], pre, fn⟩) {P : List (List D) → Prop} {res : List (List D) → Nat → Nat → D}
    (hv : ∀ (a0 : Rows) (a1 : Int) (a2 : Int) (a3 : Int), ShR [.int .i64] a0 → P [[.l a0], [.i a1], [.i a2], [.i a3]] → V52 a0 a1 a2 a3 (res [[.l a0], [.i a1], [.i a2], [.i a3]]) ) :
    PureC (cxE ro) 52 ⟨[(false, [.sl [.int .i64]]), (false, [.int .i64]), (false, [.int .i64]), (false, [.int .i64])], [(false, [.int .i64])], false⟩ P res := by
  have hA := hE.A
  simp only [] at hA
  have hinl : ∀ f fn, inlL [] f = some fn → (cxE ro).fn f = some fn ∧ (cxE ro).ext f = none := Inls.ok (by repeat (first | exact .nil | refine .cons rfl rfl ?_))
  refine PureC.of_vc hE hinl 6 (f := 52) (fn := Tryz.f52) ⟨rfl, rfl⟩ ?_
  intro a0 ha0 a1 a2 a3 hP
  obtain ⟨R, hR⟩ : ∃ R, res [[.l a0], [.i a1], [.i a2], [.i a3]] = R := ⟨_, rfl⟩
  rw [hR]
  have hV := hv a0 a1 a2 a3 ha0 hP
  rw [hR] at hV
  clear hR hP hv
  cbv
  repeat' (first | (refine Br.mk (fun _ => ?_) (fun _ => ?_) <;> cbv) | (refine NilB.mk (fun _ => ?_) ?_ <;> cbv) | refine And.intro ?_ ?_ | exact True.intro)
  · subst hA; exact hV.g0
  · subst hA; exact hV.g1
  · subst hA; exact hV.g2
  · subst hA; exact hV.g3
  · subst hA; exact hV.g4
  · subst hA; exact hV.g5
  · subst hA; exact hV.g6
  · subst hA; exact hV.g7
  · subst hA; exact hV.g8
  · subst hA; exact hV.g9
  · subst hA; exact hV.g10
  · subst hA; exact hV.g11
  · subst hA; exact hV.g12
  · subst hA; exact hV.g13
end HX

namespace HX
open Go Go.Proofs CX
set_option maxHeartbeats 4000000 in
set_option maxRecDepth 100000 in
theorem walk15 {ro A pre fn} (hE : EnvOk ⟨A, (cxE ro), ksF, sigL [(49, ⟨[(false, [.sl [.int .i64]])], [(false, [.int .i64])], false⟩)], pre, fn⟩) {P : List (List D) → Prop} {res : List (List D) → Nat → Nat → D}
    (hv : ∀ (a0 : Rows) (a1 : Int), ShR [.int .i64] a0 → P [[.l a0], [.i a1]] → ∃ (I0 : Int → Int → Int → Int → Int → Prop) (m0 : Int → Int → Int → Int → Int → Nat), V15 pre fn a0 a1 (res [[.l a0], [.i a1]]) I0 m0) :
    PureC (cxE ro) 15 ⟨[(false, [.sl [.int .i64]]), (false, [.int .i64])], [(false, [.int .i64]), (false, [.int .i64])], false⟩ P res := by
  have hA := hE.A
  simp only [] at hA
  have hinl : ∀ f fn, inlL [(50, Tryz.f50), (88, Tryz.f88)] f = some fn → (cxE ro).fn f = some fn ∧ (cxE ro).ext f = none := Inls.ok (by repeat (first | exact .nil | refine .cons rfl rfl ?_))
  refine PureC.of_vc hE hinl 6 (f := 15) (fn := Tryz.f15) ⟨rfl, rfl⟩ ?_
  intro a0 ha0 a1 hP
  obtain ⟨R, hR⟩ : ∃ R, res [[.l a0], [.i a1]] = R := ⟨_, rfl⟩
  rw [hR]
  obtain ⟨I0, m0, hV⟩ := hv a0 a1 ha0 hP
  rw [hR] at hV
  clear hR hP hv
  cbv
  repeat' (first | (refine Br.mk (fun _ => ?_) (fun _ => ?_) <;> cbv) | (refine NilB.mk (fun _ => ?_) ?_ <;> cbv) | refine And.intro ?_ ?_ | exact True.intro)
  · rename_i p0a
    subst hA; exact hV.g0 (dt p0a)
  · rename_i p1a
    subst hA; exact hV.g1 (dt p1a)
  · rename_i p2a p2b
    subst hA; exact hV.g2 (df p2a) (dt p2b)
  · rename_i p3a p3b
    subst hA; exact hV.g3 (df p3a) (dt p3b)
  · rename_i p4a p4b
    subst hA; exact hV.g4 (df p4a) (df p4b)
  · rename_i p5a p5b p5c
    subst hA; exact hV.g5 (df p5a) (df p5b) (df (nt p5c))
  · rename_i p6a p6b p6c
    subst hA; exact hV.g6 (df p6a) (df p6b) (df (nt p6c))
  · rename_i p7a p7b p7c
    refine Leaf.gen fun σz hσz => ?_
    refine loopB hE hinl 6 [] [] [(2, []), (3, []), (4, [])] (fun x : Int × Int × Int × Int × Int => [.i x.1, .i x.2.1, D.l [[.i x.2.2.1]], D.l [[.i x.2.2.2.1]], D.l [[.i x.2.2.2.2]]]) (fun x => I0 x.1 x.2.1 x.2.2.1 x.2.2.2.1 x.2.2.2.2) (fun x => m0 x.1 x.2.1 x.2.2.1 x.2.2.2.1 x.2.2.2.2) (0, 0, a1, 0, 0) (by subst hA; exact hV.i0 (df p7a) (df p7b) (dt (nf p7c))) ?_ ?_ <;> subst hσz
    · clear hE hinl hV; cbv; (try (repeat' (first | exact True.intro | rfl | assumption | apply And.intro)))
    · intro ⟨x0_0, x0_1, x0_2, x0_3, x0_4⟩ hI0 K0 hK0
      cbv
      repeat' (first | (refine Br.mk (fun _ => ?_) (fun _ => ?_) <;> cbv) | (refine NilB.mk (fun _ => ?_) ?_ <;> cbv) | refine And.intro ?_ ?_ | exact True.intro)
      · rename_i p8a
        subst hA; exact hV.g8 _ _ _ _ _ hI0 (df p7a) (df p7b) (dt (nf p7c)) (dt p8a)
      · rename_i p9a
        subst hA; exact hV.g9 _ _ _ _ _ hI0 (df p7a) (df p7b) (dt (nf p7c)) (dt p9a)
      · rename_i p10a
        subst hA; exact hV.g10 _ _ _ _ _ hI0 (df p7a) (df p7b) (dt (nf p7c)) (dt p10a)
      · rename_i p11a
        subst hA; exact hV.g11 _ _ _ _ _ hI0 (df p7a) (df p7b) (dt (nf p7c)) (dt p11a)
      · rename_i p12a
        subst hA; exact hV.g12 _ _ _ _ _ hI0 (df p7a) (df p7b) (dt (nf p7c)) (dt p12a)
      · rename_i p13a
        subst hA; exact hV.g13 _ _ _ _ _ hI0 (df p7a) (df p7b) (dt (nf p7c)) (dt p13a)
      · rename_i p14a
        subst hA; exact hV.g14 _ _ _ _ _ hI0 (df p7a) (df p7b) (dt (nf p7c)) (dt p14a)
      · rename_i p15a
        subst hA; exact hV.g15 _ _ _ _ _ hI0 (df p7a) (df p7b) (dt (nf p7c)) (dt p15a)
      · rename_i p16a
        subst hA; exact hV.g16 _ _ _ _ _ hI0 (df p7a) (df p7b) (dt (nf p7c)) (dt p16a)
      · rename_i p17a
        refine hK0 (A.max x0_0 (A.max 0 (A.sub (A.add (A.max 0 (A.sub x0_3 (A.mul x0_2 (A.sub (A.di (A.get a0 (A.toNat x0_1) 0)) x0_4)))) 1024) x0_2)), A.add x0_1 1, x0_2, A.add (A.max 0 (A.sub x0_3 (A.mul x0_2 (A.sub (A.di (A.get a0 (A.toNat x0_1) 0)) x0_4)))) 1024, A.di (A.get a0 (A.toNat x0_1) 0)) _ ?_ ?_ ?_
        · subst hA; exact (hV.n17 _ _ _ _ _ hI0 (df p7a) (df p7b) (dt (nf p7c)) (dt p17a)).1
        · subst hA; exact (hV.n17 _ _ _ _ _ hI0 (df p7a) (df p7b) (dt (nf p7c)) (dt p17a)).2
        · clear hE hinl hV hK0; cbv; (try (repeat' (first | exact True.intro | rfl | assumption | apply And.intro)))
      · rename_i p18a
        subst hA; exact hV.g18 _ _ _ _ _ hI0 (df p7a) (df p7b) (dt (nf p7c)) (df p18a)
      · rename_i p19a
        subst hA; exact hV.g19 _ _ _ _ _ hI0 (df p7a) (df p7b) (dt (nf p7c)) (df p19a)
end HX

namespace HX
open Go Go.Proofs CX
set_option maxHeartbeats 4000000 in
set_option maxRecDepth 100000 in
theorem walk16 {ro A pre fn} (hE : EnvOk ⟨A, (cxE ro), ksF, sigL [(51, ⟨[(false, [.sl [.int .i64]])], [(false, [.int .i64])], false⟩), (52, ⟨[(false, [.sl [.int .i64]]), (false, [.int .i64]), (false, [.int .i64]), (false, [.int .i64])], [(false, [.int .i64])], false⟩)], pre, fn⟩) {P : List (List D) → Prop} {res : List (List D) → Nat → Nat → D}
    (hv : ∀ (a0 : Rows) (a1 : Int), ShR [.int .i64] a0 → P [[.l a0], [.i a1]] → ∃ (I0 : Int → Int → Prop) (m0 : Int → Int → Nat) (I1 : Int → Int → Int → Int → Prop) (m1 : Int → Int → Int → Int → Nat), V16 pre fn a0 a1 (res [[.l a0], [.i a1]]) I0 m0 I1 m1) :
    PureC (cxE ro) 16 ⟨[(false, [.sl [.int .i64]]), (false, [.int .i64])], [(false, [.int .i64]), (false, [.int .i64])], false⟩ P res := by
  have hA := hE.A
  simp only [] at hA
  have hinl : ∀ f fn, inlL [] f = some fn → (cxE ro).fn f = some fn ∧ (cxE ro).ext f = none := Inls.ok (by repeat (first | exact .nil | refine .cons rfl rfl ?_))
  refine PureC.of_vc hE hinl 6 (f := 16) (fn := Tryz.f16) ⟨rfl, rfl⟩ ?_
  intro a0 ha0 a1 hP
  obtain ⟨R, hR⟩ : ∃ R, res [[.l a0], [.i a1]] = R := ⟨_, rfl⟩
  rw [hR]
  obtain ⟨I0, m0, I1, m1, hV⟩ := hv a0 a1 ha0 hP
  rw [hR] at hV
  clear hR hP hv
  cbv
  repeat' (first | (refine Br.mk (fun _ => ?_) (fun _ => ?_) <;> cbv) | (refine NilB.mk (fun _ => ?_) ?_ <;> cbv) | refine And.intro ?_ ?_ | exact True.intro)
  · rename_i p0a
    subst hA; exact hV.g0 (dt p0a)
  · rename_i p1a
    subst hA; exact hV.g1 (dt p1a)
  · rename_i p2a p2b
    subst hA; exact hV.g2 (df p2a) (dt p2b)
  · rename_i p3a p3b
    subst hA; exact hV.g3 (df p3a) (dt p3b)
  · rename_i p4a p4b
    subst hA; exact hV.g4 (df p4a) (df p4b)
  · rename_i p5a p5b p5c
    subst hA; exact hV.g5 (df p5a) (df p5b) (df (nt p5c))
  · rename_i p6a p6b p6c
    subst hA; exact hV.g6 (df p6a) (df p6b) (df (nt p6c))
  · rename_i p7a p7b p7c
    refine Leaf.gen fun σz hσz => ?_
    refine loopB hE hinl 6 [] [] [] (fun x : Int × Int => [.i x.1, .i x.2]) (fun x => I0 x.1 x.2) (fun x => m0 x.1 x.2) (0, 0) (by subst hA; exact hV.i0 (df p7a) (df p7b) (dt (nf p7c))) ?_ ?_ <;> subst hσz
    · clear hE hinl hV; cbv; (try (repeat' (first | exact True.intro | rfl | assumption | apply And.intro)))
    · intro ⟨x0_0, x0_1⟩ hI0 K0 hK0
      cbv
      repeat' (first | (refine Br.mk (fun _ => ?_) (fun _ => ?_) <;> cbv) | (refine NilB.mk (fun _ => ?_) ?_ <;> cbv) | refine And.intro ?_ ?_ | exact True.intro)
      · rename_i p8a
        refine Leaf.gen fun σz hσz => ?_
        refine loopB hE hinl 6 [] [] [] (fun x : Int × Int => [.i x.1, .i x.2]) (fun x => I1 x0_0 x0_1 x.1 x.2) (fun x => m1 x0_0 x0_1 x.1 x.2) (x0_0, x0_1) (by subst hA; exact hV.i1 _ _ hI0 (df p7a) (df p7b) (dt (nf p7c)) (dt p8a)) ?_ ?_ <;> subst hσz
        · clear hE hinl hV; cbv; (try (repeat' (first | exact True.intro | rfl | assumption | apply And.intro)))
        · intro ⟨x1_0, x1_1⟩ hI1 K1 hK1
          cbv
          repeat' (first | (refine Br.mk (fun _ => ?_) (fun _ => ?_) <;> cbv) | (refine NilB.mk (fun _ => ?_) ?_ <;> cbv) | refine And.intro ?_ ?_ | exact True.intro)
          · rename_i p9a
            subst hA; exact hV.g9 _ _ hI0 _ _ hI1 (df p7a) (df p7b) (dt (nf p7c)) (dt p8a) (dt p9a)
          · rename_i p10a
            subst hA; exact hV.g10 _ _ hI0 _ _ hI1 (df p7a) (df p7b) (dt (nf p7c)) (dt p8a) (dt p10a)
          · rename_i p11a
            refine hK1 (A.max x1_0 (A.di (fn 52 [[D.l a0], [D.i x0_1], [D.i x1_1], [D.i a1]] 0 0)), A.add x1_1 1) _ ?_ ?_ ?_
            · subst hA; exact (hV.n11 _ _ hI0 _ _ hI1 (df p7a) (df p7b) (dt (nf p7c)) (dt p8a) (dt p11a)).1
            · subst hA; exact (hV.n11 _ _ hI0 _ _ hI1 (df p7a) (df p7b) (dt (nf p7c)) (dt p8a) (dt p11a)).2
            · clear hE hinl hV hK1; cbv; (try (repeat' (first | exact True.intro | rfl | assumption | apply And.intro)))
          · rename_i p12a
            subst hA; exact hV.g12 _ _ hI0 _ _ hI1 (df p7a) (df p7b) (dt (nf p7c)) (dt p8a) (df p12a)
          · rename_i p13a
            refine hK0 (x1_0, A.add x0_1 1) _ ?_ ?_ ?_
            · subst hA; exact (hV.n13 _ _ hI0 _ _ hI1 (df p7a) (df p7b) (dt (nf p7c)) (dt p8a) (df p13a)).1
            · subst hA; exact (hV.n13 _ _ hI0 _ _ hI1 (df p7a) (df p7b) (dt (nf p7c)) (dt p8a) (df p13a)).2
            · clear hE hinl hV hK0; cbv; (try (repeat' (first | exact True.intro | rfl | assumption | apply And.intro)))
      · rename_i p14a
        subst hA; exact hV.g14 _ _ hI0 (df p7a) (df p7b) (dt (nf p7c)) (df p14a)
      · rename_i p15a
        subst hA; exact hV.g15 _ _ hI0 (df p7a) (df p7b) (dt (nf p7c)) (df p15a)
end HX

namespace HX
open Go Go.Proofs CX
set_option maxHeartbeats 4000000 in
set_option maxRecDepth 100000 in
theorem walk10 {ro A pre fn} (hE : EnvOk ⟨A, (cxE ro), ksF, sigL [(13, ⟨[(true, [.int .i64, .int .i64])], [(false, [.int .i64])], false⟩), (15, ⟨[(false, [.sl [.int .i64]]), (false, [.int .i64])], [(false, [.int .i64]), (false, [.int .i64])], false⟩)], pre, fn⟩) {P : List (List D) → Prop} {res : List (List D) → Nat → Nat → D}
    (hv : ∀ (a0 : Rows) (a1_0 : Int) (a1_1 : Int), ShR [.int .i64] a0 → P [[.l a0], [.i a1_0, .i a1_1]] → V10 pre fn a0 a1_0 a1_1 (res [[.l a0], [.i a1_0, .i a1_1]]) ) :
    PureC (cxE ro) 10 ⟨[(false, [.sl [.int .i64]]), (true, [.int .i64, .int .i64])], [(false, [.bool]), (false, [.int .i64])], false⟩ P res := by
  have hA := hE.A
  simp only [] at hA
  have hinl : ∀ f fn, inlL [] f = some fn → (cxE ro).fn f = some fn ∧ (cxE ro).ext f = none := Inls.ok (by repeat (first | exact .nil | refine .cons rfl rfl ?_))
  refine PureC.of_vc hE hinl 6 (f := 10) (fn := Tryz.f10) ⟨rfl, rfl⟩ ?_
  intro a0 ha0 a1_0 a1_1 hP
  obtain ⟨R, hR⟩ : ∃ R, res [[.l a0], [.i a1_0, .i a1_1]] = R := ⟨_, rfl⟩
  rw [hR]
  have hV := hv a0 a1_0 a1_1 ha0 hP
  rw [hR] at hV
  clear hR hP hv
  cbv
  repeat' (first | (refine Br.mk (fun _ => ?_) (fun _ => ?_) <;> cbv) | (refine NilB.mk (fun _ => ?_) ?_ <;> cbv) | refine And.intro ?_ ?_ | exact True.intro)
  · subst hA; exact hV.g0
  · rename_i p1a
    subst hA; exact hV.g1 (df (nt p1a))
  · rename_i p2a
    subst hA; exact hV.g2 (df (nt p2a))
  · rename_i p3a
    subst hA; exact hV.g3 (dt (nf p3a))
  · rename_i p4a p4b
    subst hA; exact hV.g4 (dt (nf p4a)) (dt p4b)
  · rename_i p5a p5b
    subst hA; exact hV.g5 (dt (nf p5a)) (dt p5b)
  · rename_i p6a p6b
    subst hA; exact hV.g6 (dt (nf p6a)) (df p6b)
  · rename_i p7a p7b
    subst hA; exact hV.g7 (dt (nf p7a)) (df p7b)
end HX

namespace HX
open Go Go.Proofs CX
set_option maxHeartbeats 4000000 in
set_option maxRecDepth 100000 in
theorem walk12 {ro A pre fn} (hE : EnvOk ⟨A, (cxE ro), ksF, sigL [(14, ⟨[(true, [.int .i64, .int .i64])], [(false, [.int .i64])], false⟩), (16, ⟨[(false, [.sl [.int .i64]]), (false, [.int .i64])], [(false, [.int .i64]), (false, [.int .i64])], false⟩)], pre, fn⟩) {P : List (List D) → Prop} {res : List (List D) → Nat → Nat → D}
    (hv : ∀ (a0 : Rows) (a1_0 : Int) (a1_1 : Int), ShR [.int .i64] a0 → P [[.l a0], [.i a1_0, .i a1_1]] → V12 pre fn a0 a1_0 a1_1 (res [[.l a0], [.i a1_0, .i a1_1]]) ) :
    PureC (cxE ro) 12 ⟨[(false, [.sl [.int .i64]]), (true, [.int .i64, .int .i64])], [(false, [.bool]), (false, [.int .i64])], false⟩ P res := by
  have hA := hE.A
  simp only [] at hA
  have hinl : ∀ f fn, inlL [] f = some fn → (cxE ro).fn f = some fn ∧ (cxE ro).ext f = none := Inls.ok (by repeat (first | exact .nil | refine .cons rfl rfl ?_))
  refine PureC.of_vc hE hinl 6 (f := 12) (fn := Tryz.f12) ⟨rfl, rfl⟩ ?_
  intro a0 ha0 a1_0 a1_1 hP
  obtain ⟨R, hR⟩ : ∃ R, res [[.l a0], [.i a1_0, .i a1_1]] = R := ⟨_, rfl⟩
  rw [hR]
  have hV := hv a0 a1_0 a1_1 ha0 hP
  rw [hR] at hV
  clear hR hP hv
  cbv
  repeat' (first | (refine Br.mk (fun _ => ?_) (fun _ => ?_) <;> cbv) | (refine NilB.mk (fun _ => ?_) ?_ <;> cbv) | refine And.intro ?_ ?_ | exact True.intro)
  · subst hA; exact hV.g0
  · rename_i p1a
    subst hA; exact hV.g1 (df (nt p1a))
  · rename_i p2a
    subst hA; exact hV.g2 (df (nt p2a))
  · rename_i p3a
    subst hA; exact hV.g3 (dt (nf p3a))
  · rename_i p4a p4b
    subst hA; exact hV.g4 (dt (nf p4a)) (dt p4b)
  · rename_i p5a p5b
    subst hA; exact hV.g5 (dt (nf p5a)) (dt p5b)
  · rename_i p6a p6b
    subst hA; exact hV.g6 (dt (nf p6a)) (df p6b)
  · rename_i p7a p7b
    subst hA; exact hV.g7 (dt (nf p7a)) (df p7b)
end HX

namespace HX
open Go Go.Proofs CX
set_option maxHeartbeats 4000000 in
set_option maxRecDepth 100000 in
theorem walk17 {ro A pre fn} (hE : EnvOk ⟨A, (cxE ro), ksF, sigL [(13, ⟨[(true, [.int .i64, .int .i64])], [(false, [.int .i64])], false⟩), (49, ⟨[(false, [.sl [.int .i64]])], [(false, [.int .i64])], false⟩)], pre, fn⟩) {P : List (List D) → Prop} {res : List (List D) → Nat → Nat → D}
    (hv : ∀ (a0 : Rows) (a1_0 : Int) (a1_1 : Int), ShR [.int .i64] a0 → P [[.l a0], [.i a1_0, .i a1_1]] → ∃ (I0 : Rows → Int → Int → Int → Prop) (m0 : Rows → Int → Int → Int → Nat), V17 pre fn a0 a1_0 a1_1 (res [[.l a0], [.i a1_0, .i a1_1]]) I0 m0) :
    PureC (cxE ro) 17 ⟨[(false, [.sl [.int .i64]]), (true, [.int .i64, .int .i64])], [(false, [.sl [.int .i64]]), (false, [.int .i64])], false⟩ P res := by
  have hA := hE.A
  simp only [] at hA
  have hinl : ∀ f fn, inlL [] f = some fn → (cxE ro).fn f = some fn ∧ (cxE ro).ext f = none := Inls.ok (by repeat (first | exact .nil | refine .cons rfl rfl ?_))
  refine PureC.of_vc hE hinl 6 (f := 17) (fn := Tryz.f17) ⟨rfl, rfl⟩ ?_
  intro a0 ha0 a1_0 a1_1 hP
  obtain ⟨R, hR⟩ : ∃ R, res [[.l a0], [.i a1_0, .i a1_1]] = R := ⟨_, rfl⟩
  rw [hR]
  obtain ⟨I0, m0, hV⟩ := hv a0 a1_0 a1_1 ha0 hP
  rw [hR] at hV
  clear hR hP hv
  cbv
  repeat' (first | (refine Br.mk (fun _ => ?_) (fun _ => ?_) <;> cbv) | (refine NilB.mk (fun _ => ?_) ?_ <;> cbv) | refine And.intro ?_ ?_ | exact True.intro)
  · subst hA; exact hV.g0
  · rename_i p1a
    subst hA; exact hV.g1 (df (nt p1a))
  · rename_i p2a
    subst hA; exact hV.g2 (df (nt p2a))
  · rename_i p3a
    subst hA; exact hV.g3 (dt (nf p3a))
  · rename_i p4a p4b
    subst hA; exact hV.g4 (dt (nf p4a)) (df (nt p4b))
  · rename_i p5a p5b
    subst hA; exact hV.g5 (dt (nf p5a)) (df (nt p5b))
  · rename_i p6a p6b
    refine Leaf.gen fun σz hσz => ?_
    refine loopB hE hinl 6 [] [4, 5] [] (fun x : Rows × Int × Int × Int => [.l x.1, .i x.2.1, .i x.2.2.1, .i x.2.2.2]) (fun x => I0 x.1 x.2.1 x.2.2.1 x.2.2.2) (fun x => m0 x.1 x.2.1 x.2.2.1 x.2.2.2) ([], 0, 0, 0) (by subst hA; exact hV.i0 (dt (nf p6a)) (dt (nf p6b))) ?_ ?_ <;> subst hσz
    · clear hE hinl hV; cbv; (try (repeat' (first | exact True.intro | rfl | assumption | apply And.intro)))
    · intro ⟨x0_0, x0_1, x0_2, x0_3⟩ hI0 K0 hK0
      cbv
      repeat' (first | (refine Br.mk (fun _ => ?_) (fun _ => ?_) <;> cbv) | (refine NilB.mk (fun _ => ?_) ?_ <;> cbv) | refine And.intro ?_ ?_ | exact True.intro)
      · rename_i p7a
        subst hA; exact hV.g7 _ _ _ _ hI0 (dt (nf p6a)) (dt (nf p6b)) (dt p7a)
      · rename_i p8a
        subst hA; exact hV.g8 _ _ _ _ hI0 (dt (nf p6a)) (dt (nf p6b)) (dt p8a)
      · rename_i p9a
        subst hA; exact hV.g9 _ _ _ _ hI0 (dt (nf p6a)) (dt (nf p6b)) (dt p9a)
      · rename_i p10a
        subst hA; exact hV.g10 _ _ _ _ hI0 (dt (nf p6a)) (dt (nf p6b)) (dt p10a)
      · rename_i p11a
        subst hA; exact hV.g11 _ _ _ _ hI0 (dt (nf p6a)) (dt (nf p6b)) (dt p11a)
      · rename_i p12a
        subst hA; exact hV.g12 _ _ _ _ hI0 (dt (nf p6a)) (dt (nf p6b)) (dt p12a)
      · rename_i p13a
        subst hA; exact hV.g13 _ _ _ _ hI0 (dt (nf p6a)) (dt (nf p6b)) (dt p13a)
      · rename_i p14a
        subst hA; exact hV.g14 _ _ _ _ hI0 (dt (nf p6a)) (dt (nf p6b)) (dt p14a)
      · rename_i p15a
        subst hA; exact hV.g15 _ _ _ _ hI0 (dt (nf p6a)) (dt (nf p6b)) (dt p15a)
      · rename_i p16a p16b p16c
        subst hA; exact hV.g16 _ _ _ _ hI0 (dt (nf p6a)) (dt (nf p6b)) (dt p16a) (dt p16b) (dt p16c)
      · rename_i p17a p17b p17c
        subst hA; exact hV.g17 _ _ _ _ hI0 (dt (nf p6a)) (dt (nf p6b)) (dt p17a) (dt p17b) (dt p17c)
      · rename_i p18a p18b p18c
        subst hA; exact hV.g18 _ _ _ _ hI0 (dt (nf p6a)) (dt (nf p6b)) (dt p18a) (dt p18b) (df p18c)
      · rename_i p19a p19b p19c p19d
        subst hA; exact hV.g19 _ _ _ _ hI0 (dt (nf p6a)) (dt (nf p6b)) (dt p19a) (dt p19b) (df p19c) (dt p19d)
      · rename_i p20a p20b p20c p20d
        subst hA; exact hV.g20 _ _ _ _ hI0 (dt (nf p6a)) (dt (nf p6b)) (dt p20a) (dt p20b) (df p20c) (dt p20d)
      · rename_i p21a p21b p21c p21d
        subst hA; exact hV.g21 _ _ _ _ hI0 (dt (nf p6a)) (dt (nf p6b)) (dt p21a) (dt p21b) (df p21c) (df p21d)
      · rename_i p22a p22b p22c p22d
        subst hA; exact hV.g22 _ _ _ _ hI0 (dt (nf p6a)) (dt (nf p6b)) (dt p22a) (dt p22b) (df p22c) (df p22d)
      · rename_i p23a p23b p23c p23d
        subst hA; exact hV.g23 _ _ _ _ hI0 (dt (nf p6a)) (dt (nf p6b)) (dt p23a) (dt p23b) (df p23c) (df p23d)
      · rename_i p24a p24b p24c p24d
        subst hA; exact hV.g24 _ _ _ _ hI0 (dt (nf p6a)) (dt (nf p6b)) (dt p24a) (dt p24b) (df p24c) (df p24d)
      · rename_i p25a p25b p25c p25d
        subst hA; exact hV.g25 _ _ _ _ hI0 (dt (nf p6a)) (dt (nf p6b)) (dt p25a) (dt p25b) (df p25c) (df p25d)
      · rename_i p26a p26b p26c p26d
        subst hA; exact hV.g26 _ _ _ _ hI0 (dt (nf p6a)) (dt (nf p6b)) (dt p26a) (dt p26b) (df p26c) (df p26d)
      · rename_i p27a p27b p27c p27d
        subst hA; exact hV.g27 _ _ _ _ hI0 (dt (nf p6a)) (dt (nf p6b)) (dt p27a) (dt p27b) (df p27c) (df p27d)
      · rename_i p28a p28b p28c p28d
        subst hA; exact hV.g28 _ _ _ _ hI0 (dt (nf p6a)) (dt (nf p6b)) (dt p28a) (dt p28b) (df p28c) (df p28d)
      · rename_i p29a p29b p29c p29d
        subst hA; exact hV.g29 _ _ _ _ hI0 (dt (nf p6a)) (dt (nf p6b)) (dt p29a) (dt p29b) (df p29c) (df p29d)
      · rename_i p30a p30b p30c p30d
        subst hA; exact hV.g30 _ _ _ _ hI0 (dt (nf p6a)) (dt (nf p6b)) (dt p30a) (dt p30b) (df p30c) (df p30d)
      · rename_i p31a p31b p31c p31d
        refine hK0 (A.app x0_0 [[D.i (A.add (A.max (A.di (A.get a0 (A.toNat x0_3) 0)) x0_2) (A.tdiv (A.sub (A.add (A.sub (A.sub (A.add (A.max 0 (A.sub x0_1 (A.mul a1_1 (A.sub (A.max (A.di (A.get a0 (A.toNat x0_3) 0)) x0_2) x0_2)))) 1024) a1_1) a1_0) a1_1) 1) a1_1))]], A.add (A.max 0 (A.sub (A.max 0 (A.sub x0_1 (A.mul a1_1 (A.sub (A.max (A.di (A.get a0 (A.toNat x0_3) 0)) x0_2) x0_2)))) (A.mul a1_1 (A.tdiv (A.sub (A.add (A.sub (A.sub (A.add (A.max 0 (A.sub x0_1 (A.mul a1_1 (A.sub (A.max (A.di (A.get a0 (A.toNat x0_3) 0)) x0_2) x0_2)))) 1024) a1_1) a1_0) a1_1) 1) a1_1)))) 1024, A.add (A.max (A.di (A.get a0 (A.toNat x0_3) 0)) x0_2) (A.tdiv (A.sub (A.add (A.sub (A.sub (A.add (A.max 0 (A.sub x0_1 (A.mul a1_1 (A.sub (A.max (A.di (A.get a0 (A.toNat x0_3) 0)) x0_2) x0_2)))) 1024) a1_1) a1_0) a1_1) 1) a1_1), A.add x0_3 1) _ ?_ ?_ ?_
        · subst hA; exact (hV.n31 _ _ _ _ hI0 (dt (nf p6a)) (dt (nf p6b)) (dt p31a) (dt p31b) (df p31c) (df p31d)).1
        · subst hA; exact (hV.n31 _ _ _ _ hI0 (dt (nf p6a)) (dt (nf p6b)) (dt p31a) (dt p31b) (df p31c) (df p31d)).2
        · clear hE hinl hV hK0; cbv; (try (repeat' (first | exact True.intro | rfl | assumption | apply And.intro)))
      · rename_i p32a p32b
        subst hA; exact hV.g32 _ _ _ _ hI0 (dt (nf p6a)) (dt (nf p6b)) (dt p32a) (df p32b)
      · rename_i p33a p33b
        subst hA; exact hV.g33 _ _ _ _ hI0 (dt (nf p6a)) (dt (nf p6b)) (dt p33a) (df p33b)
      · rename_i p34a p34b
        subst hA; exact hV.g34 _ _ _ _ hI0 (dt (nf p6a)) (dt (nf p6b)) (dt p34a) (df p34b)
      · rename_i p35a p35b
        refine hK0 (A.app x0_0 [[D.i (A.max (A.di (A.get a0 (A.toNat x0_3) 0)) x0_2)]], A.add (A.max 0 (A.sub x0_1 (A.mul a1_1 (A.sub (A.max (A.di (A.get a0 (A.toNat x0_3) 0)) x0_2) x0_2)))) 1024, A.max (A.di (A.get a0 (A.toNat x0_3) 0)) x0_2, A.add x0_3 1) _ ?_ ?_ ?_
        · subst hA; exact (hV.n35 _ _ _ _ hI0 (dt (nf p6a)) (dt (nf p6b)) (dt p35a) (df p35b)).1
        · subst hA; exact (hV.n35 _ _ _ _ hI0 (dt (nf p6a)) (dt (nf p6b)) (dt p35a) (df p35b)).2
        · clear hE hinl hV hK0; cbv; (try (repeat' (first | exact True.intro | rfl | assumption | apply And.intro)))
      · rename_i p36a
        subst hA; exact hV.g36 _ _ _ _ hI0 (dt (nf p6a)) (dt (nf p6b)) (df p36a)
      · rename_i p37a
        subst hA; exact hV.g37 _ _ _ _ hI0 (dt (nf p6a)) (dt (nf p6b)) (df p37a)
end HX

namespace HX
open Go Go.Proofs CX
set_option maxHeartbeats 4000000 in
set_option maxRecDepth 100000 in
theorem walk18 {ro A pre fn} (hE : EnvOk ⟨A, (cxE ro), ksF, sigL [(14, ⟨[(true, [.int .i64, .int .i64])], [(false, [.int .i64])], false⟩), (51, ⟨[(false, [.sl [.int .i64]])], [(false, [.int .i64])], false⟩), (52, ⟨[(false, [.sl [.int .i64]]), (false, [.int .i64]), (false, [.int .i64]), (false, [.int .i64])], [(false, [.int .i64])], false⟩)], pre, fn⟩) {P : List (List D) → Prop} {res : List (List D) → Nat → Nat → D}
    (hv : ∀ (a0 : Rows) (a1_0 : Int) (a1_1 : Int), ShR [.int .i64] a0 → P [[.l a0], [.i a1_0, .i a1_1]] → ∃ (I0 : Rows → Int → Prop) (m0 : Rows → Int → Nat) (I1 : Rows → Int → Int → Rows → Prop) (m1 : Rows → Int → Int → Rows → Nat) (I2 : Rows → Int → Int → Rows → Prop) (m2 : Rows → Int → Int → Rows → Nat), V18 pre fn a0 a1_0 a1_1 (res [[.l a0], [.i a1_0, .i a1_1]]) I0 m0 I1 m1 I2 m2) :
    PureC (cxE ro) 18 ⟨[(false, [.sl [.int .i64]]), (true, [.int .i64, .int .i64])], [(false, [.sl [.int .i64]]), (false, [.int .i64])], false⟩ P res := by
  have hA := hE.A
  simp only [] at hA
  have hinl : ∀ f fn, inlL [] f = some fn → (cxE ro).fn f = some fn ∧ (cxE ro).ext f = none := Inls.ok (by repeat (first | exact .nil | refine .cons rfl rfl ?_))
  refine PureC.of_vc hE hinl 6 (f := 18) (fn := Tryz.f18) ⟨rfl, rfl⟩ ?_
  intro a0 ha0 a1_0 a1_1 hP
  obtain ⟨R, hR⟩ : ∃ R, res [[.l a0], [.i a1_0, .i a1_1]] = R := ⟨_, rfl⟩
  rw [hR]
  obtain ⟨I0, m0, I1, m1, I2, m2, hV⟩ := hv a0 a1_0 a1_1 ha0 hP
  rw [hR] at hV
  clear hR hP hv
  cbv
  repeat' (first | (refine Br.mk (fun _ => ?_) (fun _ => ?_) <;> cbv) | (refine NilB.mk (fun _ => ?_) ?_ <;> cbv) | refine And.intro ?_ ?_ | exact True.intro)
  · subst hA; exact hV.g0
  · rename_i p1a
    subst hA; exact hV.g1 (df (nt p1a))
  · rename_i p2a
    subst hA; exact hV.g2 (df (nt p2a))
  · rename_i p3a
    subst hA; exact hV.g3 (dt (nf p3a))
  · rename_i p4a p4b
    subst hA; exact hV.g4 (dt (nf p4a)) (df (nt p4b))
  · rename_i p5a p5b
    subst hA; exact hV.g5 (dt (nf p5a)) (df (nt p5b))
  · rename_i p6a p6b
    refine Leaf.gen fun σz hσz => ?_
    refine loopB hE hinl 6 [] [4, 5] [] (fun x : Rows × Int => [.l x.1, .i x.2]) (fun x => I0 x.1 x.2) (fun x => m0 x.1 x.2) ([], 0) (by subst hA; exact hV.i0 (dt (nf p6a)) (dt (nf p6b))) ?_ ?_ <;> subst hσz
    · clear hE hinl hV; cbv; (try (repeat' (first | exact True.intro | rfl | assumption | apply And.intro)))
    · intro ⟨x0_0, x0_1⟩ hI0 K0 hK0
      cbv
      repeat' (first | (refine Br.mk (fun _ => ?_) (fun _ => ?_) <;> cbv) | (refine NilB.mk (fun _ => ?_) ?_ <;> cbv) | refine And.intro ?_ ?_ | exact True.intro)
      · rename_i p7a
        subst hA; exact hV.g7 _ _ hI0 (dt (nf p6a)) (dt (nf p6b)) (dt p7a)
      · rename_i p8a
        subst hA; exact hV.g8 _ _ hI0 (dt (nf p6a)) (dt (nf p6b)) (dt p8a)
      · rename_i p9a
        subst hA; exact hV.g9 _ _ hI0 (dt (nf p6a)) (dt (nf p6b)) (dt p9a)
      · rename_i p10a p10b
        subst hA; exact hV.g10 _ _ hI0 (dt (nf p6a)) (dt (nf p6b)) (dt p10a) (dt p10b)
      · rename_i p11a p11b
        subst hA; exact hV.g11 _ _ hI0 (dt (nf p6a)) (dt (nf p6b)) (dt p11a) (dt p11b)
      · rename_i p12a p12b
        subst hA; exact hV.g12 _ _ hI0 (dt (nf p6a)) (dt (nf p6b)) (dt p12a) (dt p12b)
      · rename_i p13a p13b
        subst hA; exact hV.g13 _ _ hI0 (dt (nf p6a)) (dt (nf p6b)) (dt p13a) (dt p13b)
      · rename_i p14a p14b
        subst hA; exact hV.g14 _ _ hI0 (dt (nf p6a)) (dt (nf p6b)) (dt p14a) (dt p14b)
      · rename_i p15a p15b
        refine Leaf.gen fun σz hσz => ?_
        refine loopB hE hinl 6 [] [4, 5] [(7, [])] (fun x : Int × Rows => [.i x.1, .l x.2]) (fun x => I1 x0_0 x0_1 x.1 x.2) (fun x => m1 x0_0 x0_1 x.1 x.2) (0, A.app x0_0 [[D.i (A.max (A.di (A.get a0 (A.toNat x0_1) 0)) (A.di (A.get x0_0 (A.toNat (A.sub x0_1 1)) 0)))]]) (by subst hA; exact hV.i1 _ _ hI0 (dt (nf p6a)) (dt (nf p6b)) (dt p15a) (dt p15b)) ?_ ?_ <;> subst hσz
        · clear hE hinl hV; cbv; (try (repeat' (first | exact True.intro | rfl | assumption | apply And.intro)))
        · intro ⟨x1_0, x1_1⟩ hI1 K1 hK1
          cbv
          repeat' (first | (refine Br.mk (fun _ => ?_) (fun _ => ?_) <;> cbv) | (refine NilB.mk (fun _ => ?_) ?_ <;> cbv) | refine And.intro ?_ ?_ | exact True.intro)
          · rename_i p16a
            subst hA; exact hV.g16 _ _ hI0 _ _ hI1 (dt (nf p6a)) (dt (nf p6b)) (dt p15a) (dt p15b) (dt p16a)
          · rename_i p17a
            subst hA; exact hV.g17 _ _ hI0 _ _ hI1 (dt (nf p6a)) (dt (nf p6b)) (dt p15a) (dt p15b) (dt p17a)
          · rename_i p18a p18b p18c
            subst hA; exact hV.g18 _ _ hI0 _ _ hI1 (dt (nf p6a)) (dt (nf p6b)) (dt p15a) (dt p15b) (dt p18a) (dt p18b) (dt p18c)
          · rename_i p19a p19b p19c
            subst hA; exact hV.g19 _ _ hI0 _ _ hI1 (dt (nf p6a)) (dt (nf p6b)) (dt p15a) (dt p15b) (dt p19a) (dt p19b) (dt p19c)
          · rename_i p20a p20b p20c p20d
            subst hA; exact hV.g20 _ _ hI0 _ _ hI1 (dt (nf p6a)) (dt (nf p6b)) (dt p15a) (dt p15b) (dt p20a) (dt p20b) (df p20c) (dt p20d)
          · rename_i p21a p21b p21c p21d
            subst hA; exact hV.g21 _ _ hI0 _ _ hI1 (dt (nf p6a)) (dt (nf p6b)) (dt p15a) (dt p15b) (dt p21a) (dt p21b) (df p21c) (dt p21d)
          · rename_i p22a p22b p22c p22d p22e
            subst hA; exact hV.g22 _ _ hI0 _ _ hI1 (dt (nf p6a)) (dt (nf p6b)) (dt p15a) (dt p15b) (dt p22a) (dt p22b) (df p22c) (df p22d) (dt p22e)
          · rename_i p23a p23b p23c p23d p23e
            subst hA; exact hV.g23 _ _ hI0 _ _ hI1 (dt (nf p6a)) (dt (nf p6b)) (dt p15a) (dt p15b) (dt p23a) (dt p23b) (df p23c) (df p23d) (dt p23e)
          · rename_i p24a p24b p24c p24d p24e
            subst hA; exact hV.g24 _ _ hI0 _ _ hI1 (dt (nf p6a)) (dt (nf p6b)) (dt p15a) (dt p15b) (dt p24a) (dt p24b) (df p24c) (df p24d) (dt p24e)
          · rename_i p25a p25b p25c p25d p25e
            subst hA; exact hV.g24 _ _ hI0 _ _ hI1 (dt (nf p6a)) (dt (nf p6b)) (dt p15a) (dt p15b) (dt p25a) (dt p25b) (df p25c) (df p25d) (dt p25e)
          · rename_i p26a p26b p26c p26d p26e
            subst hA; exact hV.g26 _ _ hI0 _ _ hI1 (dt (nf p6a)) (dt (nf p6b)) (dt p15a) (dt p15b) (dt p26a) (dt p26b) (df p26c) (df p26d) (dt p26e)
          · rename_i p27a p27b p27c p27d p27e
            subst hA; exact hV.g27 _ _ hI0 _ _ hI1 (dt (nf p6a)) (dt (nf p6b)) (dt p15a) (dt p15b) (dt p27a) (dt p27b) (df p27c) (df p27d) (dt p27e)
          · rename_i p28a p28b p28c p28d p28e
            subst hA; exact hV.g28 _ _ hI0 _ _ hI1 (dt (nf p6a)) (dt (nf p6b)) (dt p15a) (dt p15b) (dt p28a) (dt p28b) (df p28c) (df p28d) (dt p28e)
          · rename_i p29a p29b p29c p29d p29e
            subst hA; exact hV.g29 _ _ hI0 _ _ hI1 (dt (nf p6a)) (dt (nf p6b)) (dt p15a) (dt p15b) (dt p29a) (dt p29b) (df p29c) (df p29d) (dt p29e)
          · rename_i p30a p30b p30c p30d p30e
            subst hA; exact hV.g30 _ _ hI0 _ _ hI1 (dt (nf p6a)) (dt (nf p6b)) (dt p15a) (dt p15b) (dt p30a) (dt p30b) (df p30c) (df p30d) (dt p30e)
          · rename_i p31a p31b p31c p31d p31e
            subst hA; exact hV.g22 _ _ hI0 _ _ hI1 (dt (nf p6a)) (dt (nf p6b)) (dt p15a) (dt p15b) (dt p31a) (dt p31b) (df p31c) (df p31d) (dt p31e)
          · rename_i p32a p32b p32c p32d p32e
            subst hA; exact hV.g23 _ _ hI0 _ _ hI1 (dt (nf p6a)) (dt (nf p6b)) (dt p15a) (dt p15b) (dt p32a) (dt p32b) (df p32c) (df p32d) (dt p32e)
          · rename_i p33a p33b p33c p33d p33e
            subst hA; exact hV.g24 _ _ hI0 _ _ hI1 (dt (nf p6a)) (dt (nf p6b)) (dt p15a) (dt p15b) (dt p33a) (dt p33b) (df p33c) (df p33d) (dt p33e)
          · rename_i p34a p34b p34c p34d p34e
            subst hA; exact hV.g34 _ _ hI0 _ _ hI1 (dt (nf p6a)) (dt (nf p6b)) (dt p15a) (dt p15b) (dt p34a) (dt p34b) (df p34c) (df p34d) (dt p34e)
          · rename_i p35a p35b p35c p35d p35e
            refine hK1 (A.add x1_0 1, A.set x1_1 (A.toNat x0_1) [D.i (A.add (A.di (A.get x1_1 (A.toNat x0_1) 0)) (A.tdiv (A.sub (A.add (A.sub (A.di (fn 52 [[D.l x1_1], [D.i x1_0], [D.i x0_1], [D.i a1_1]] 0 0)) a1_0) a1_1) 1) a1_1))]) _ ?_ ?_ ?_
            · subst hA; exact (hV.n35 _ _ hI0 _ _ hI1 (dt (nf p6a)) (dt (nf p6b)) (dt p15a) (dt p15b) (dt p35a) (dt p35b) (df p35c) (df p35d) (dt p35e)).1
            · subst hA; exact (hV.n35 _ _ hI0 _ _ hI1 (dt (nf p6a)) (dt (nf p6b)) (dt p15a) (dt p15b) (dt p35a) (dt p35b) (df p35c) (df p35d) (dt p35e)).2
            · clear hE hinl hV hK1; cbv; (try (repeat' (first | exact True.intro | rfl | assumption | apply And.intro)))
          · rename_i p36a p36b p36c p36d p36e
            subst hA; exact hV.g36 _ _ hI0 _ _ hI1 (dt (nf p6a)) (dt (nf p6b)) (dt p15a) (dt p15b) (dt p36a) (dt p36b) (df p36c) (df p36d) (df p36e)
          · rename_i p37a p37b p37c p37d p37e
            refine hK1 (A.add x1_0 1, x1_1) _ ?_ ?_ ?_
            · subst hA; exact (hV.n37 _ _ hI0 _ _ hI1 (dt (nf p6a)) (dt (nf p6b)) (dt p15a) (dt p15b) (dt p37a) (dt p37b) (df p37c) (df p37d) (df p37e)).1
            · subst hA; exact (hV.n37 _ _ hI0 _ _ hI1 (dt (nf p6a)) (dt (nf p6b)) (dt p15a) (dt p15b) (dt p37a) (dt p37b) (df p37c) (df p37d) (df p37e)).2
            · clear hE hinl hV hK1; cbv; (try (repeat' (first | exact True.intro | rfl | assumption | apply And.intro)))
          · rename_i p38a p38b p38c
            subst hA; exact hV.g38 _ _ hI0 _ _ hI1 (dt (nf p6a)) (dt (nf p6b)) (dt p15a) (dt p15b) (dt p38a) (df p38b) (dt p38c)
          · rename_i p39a p39b p39c
            subst hA; exact hV.g39 _ _ hI0 _ _ hI1 (dt (nf p6a)) (dt (nf p6b)) (dt p15a) (dt p15b) (dt p39a) (df p39b) (dt p39c)
          · rename_i p40a p40b p40c
            subst hA; exact hV.g40 _ _ hI0 _ _ hI1 (dt (nf p6a)) (dt (nf p6b)) (dt p15a) (dt p15b) (dt p40a) (df p40b) (dt p40c)
          · rename_i p41a p41b p41c
            subst hA; exact hV.g40 _ _ hI0 _ _ hI1 (dt (nf p6a)) (dt (nf p6b)) (dt p15a) (dt p15b) (dt p41a) (df p41b) (dt p41c)
          · rename_i p42a p42b p42c
            subst hA; exact hV.g42 _ _ hI0 _ _ hI1 (dt (nf p6a)) (dt (nf p6b)) (dt p15a) (dt p15b) (dt p42a) (df p42b) (dt p42c)
          · rename_i p43a p43b p43c
            subst hA; exact hV.g43 _ _ hI0 _ _ hI1 (dt (nf p6a)) (dt (nf p6b)) (dt p15a) (dt p15b) (dt p43a) (df p43b) (dt p43c)
          · rename_i p44a p44b p44c
            subst hA; exact hV.g44 _ _ hI0 _ _ hI1 (dt (nf p6a)) (dt (nf p6b)) (dt p15a) (dt p15b) (dt p44a) (df p44b) (dt p44c)
          · rename_i p45a p45b p45c
            subst hA; exact hV.g45 _ _ hI0 _ _ hI1 (dt (nf p6a)) (dt (nf p6b)) (dt p15a) (dt p15b) (dt p45a) (df p45b) (dt p45c)
          · rename_i p46a p46b p46c
            subst hA; exact hV.g46 _ _ hI0 _ _ hI1 (dt (nf p6a)) (dt (nf p6b)) (dt p15a) (dt p15b) (dt p46a) (df p46b) (dt p46c)
          · rename_i p47a p47b p47c
            subst hA; exact hV.g38 _ _ hI0 _ _ hI1 (dt (nf p6a)) (dt (nf p6b)) (dt p15a) (dt p15b) (dt p47a) (df p47b) (dt p47c)
          · rename_i p48a p48b p48c
            subst hA; exact hV.g39 _ _ hI0 _ _ hI1 (dt (nf p6a)) (dt (nf p6b)) (dt p15a) (dt p15b) (dt p48a) (df p48b) (dt p48c)
          · rename_i p49a p49b p49c
            subst hA; exact hV.g40 _ _ hI0 _ _ hI1 (dt (nf p6a)) (dt (nf p6b)) (dt p15a) (dt p15b) (dt p49a) (df p49b) (dt p49c)
          · rename_i p50a p50b p50c
            subst hA; exact hV.g50 _ _ hI0 _ _ hI1 (dt (nf p6a)) (dt (nf p6b)) (dt p15a) (dt p15b) (dt p50a) (df p50b) (dt p50c)
          · rename_i p51a p51b p51c
            refine hK1 (A.add x1_0 1, A.set x1_1 (A.toNat x0_1) [D.i (A.add (A.di (A.get x1_1 (A.toNat x0_1) 0)) (A.tdiv (A.sub (A.add (A.sub (A.di (fn 52 [[D.l x1_1], [D.i x1_0], [D.i x0_1], [D.i a1_1]] 0 0)) a1_0) a1_1) 1) a1_1))]) _ ?_ ?_ ?_
            · subst hA; exact (hV.n51 _ _ hI0 _ _ hI1 (dt (nf p6a)) (dt (nf p6b)) (dt p15a) (dt p15b) (dt p51a) (df p51b) (dt p51c)).1
            · subst hA; exact (hV.n51 _ _ hI0 _ _ hI1 (dt (nf p6a)) (dt (nf p6b)) (dt p15a) (dt p15b) (dt p51a) (df p51b) (dt p51c)).2
            · clear hE hinl hV hK1; cbv; (try (repeat' (first | exact True.intro | rfl | assumption | apply And.intro)))
          · rename_i p52a p52b p52c
            subst hA; exact hV.g52 _ _ hI0 _ _ hI1 (dt (nf p6a)) (dt (nf p6b)) (dt p15a) (dt p15b) (dt p52a) (df p52b) (df p52c)
          · rename_i p53a p53b p53c
            refine hK1 (A.add x1_0 1, x1_1) _ ?_ ?_ ?_
            · subst hA; exact (hV.n53 _ _ hI0 _ _ hI1 (dt (nf p6a)) (dt (nf p6b)) (dt p15a) (dt p15b) (dt p53a) (df p53b) (df p53c)).1
            · subst hA; exact (hV.n53 _ _ hI0 _ _ hI1 (dt (nf p6a)) (dt (nf p6b)) (dt p15a) (dt p15b) (dt p53a) (df p53b) (df p53c)).2
            · clear hE hinl hV hK1; cbv; (try (repeat' (first | exact True.intro | rfl | assumption | apply And.intro)))
          · rename_i p54a
            subst hA; exact hV.g54 _ _ hI0 _ _ hI1 (dt (nf p6a)) (dt (nf p6b)) (dt p15a) (dt p15b) (df p54a)
          · rename_i p55a
            refine hK0 (x1_1, A.add x0_1 1) _ ?_ ?_ ?_
            · subst hA; exact (hV.n55 _ _ hI0 _ _ hI1 (dt (nf p6a)) (dt (nf p6b)) (dt p15a) (dt p15b) (df p55a)).1
            · subst hA; exact (hV.n55 _ _ hI0 _ _ hI1 (dt (nf p6a)) (dt (nf p6b)) (dt p15a) (dt p15b) (df p55a)).2
            · clear hE hinl hV hK0; cbv; (try (repeat' (first | exact True.intro | rfl | assumption | apply And.intro)))
      · rename_i p56a p56b
        subst hA; exact hV.g56 _ _ hI0 (dt (nf p6a)) (dt (nf p6b)) (dt p56a) (df p56b)
      · rename_i p57a p57b
        refine Leaf.gen fun σz hσz => ?_
        refine loopB hE hinl 6 [] [4, 5] [(7, [])] (fun x : Int × Rows => [.i x.1, .l x.2]) (fun x => I2 x0_0 x0_1 x.1 x.2) (fun x => m2 x0_0 x0_1 x.1 x.2) (0, A.app x0_0 [[D.i (A.di (A.get a0 (A.toNat x0_1) 0))]]) (by subst hA; exact hV.i2 _ _ hI0 (dt (nf p6a)) (dt (nf p6b)) (dt p57a) (df p57b)) ?_ ?_ <;> subst hσz
        · clear hE hinl hV; cbv; (try (repeat' (first | exact True.intro | rfl | assumption | apply And.intro)))
        · intro ⟨x2_0, x2_1⟩ hI2 K2 hK2
          cbv
          repeat' (first | (refine Br.mk (fun _ => ?_) (fun _ => ?_) <;> cbv) | (refine NilB.mk (fun _ => ?_) ?_ <;> cbv) | refine And.intro ?_ ?_ | exact True.intro)
          · rename_i p58a
            subst hA; exact hV.g58 _ _ hI0 _ _ hI2 (dt (nf p6a)) (dt (nf p6b)) (dt p57a) (df p57b) (dt p58a)
          · rename_i p59a
            subst hA; exact hV.g59 _ _ hI0 _ _ hI2 (dt (nf p6a)) (dt (nf p6b)) (dt p57a) (df p57b) (dt p59a)
          · rename_i p60a p60b p60c
            subst hA; exact hV.g60 _ _ hI0 _ _ hI2 (dt (nf p6a)) (dt (nf p6b)) (dt p57a) (df p57b) (dt p60a) (dt p60b) (dt p60c)
          · rename_i p61a p61b p61c
            subst hA; exact hV.g61 _ _ hI0 _ _ hI2 (dt (nf p6a)) (dt (nf p6b)) (dt p57a) (df p57b) (dt p61a) (dt p61b) (dt p61c)
          · rename_i p62a p62b p62c p62d
            subst hA; exact hV.g62 _ _ hI0 _ _ hI2 (dt (nf p6a)) (dt (nf p6b)) (dt p57a) (df p57b) (dt p62a) (dt p62b) (df p62c) (dt p62d)
          · rename_i p63a p63b p63c p63d
            subst hA; exact hV.g63 _ _ hI0 _ _ hI2 (dt (nf p6a)) (dt (nf p6b)) (dt p57a) (df p57b) (dt p63a) (dt p63b) (df p63c) (dt p63d)
          · rename_i p64a p64b p64c p64d p64e
            subst hA; exact hV.g64 _ _ hI0 _ _ hI2 (dt (nf p6a)) (dt (nf p6b)) (dt p57a) (df p57b) (dt p64a) (dt p64b) (df p64c) (df p64d) (dt p64e)
          · rename_i p65a p65b p65c p65d p65e
            subst hA; exact hV.g65 _ _ hI0 _ _ hI2 (dt (nf p6a)) (dt (nf p6b)) (dt p57a) (df p57b) (dt p65a) (dt p65b) (df p65c) (df p65d) (dt p65e)
          · rename_i p66a p66b p66c p66d p66e
            subst hA; exact hV.g66 _ _ hI0 _ _ hI2 (dt (nf p6a)) (dt (nf p6b)) (dt p57a) (df p57b) (dt p66a) (dt p66b) (df p66c) (df p66d) (dt p66e)
          · rename_i p67a p67b p67c p67d p67e
            subst hA; exact hV.g66 _ _ hI0 _ _ hI2 (dt (nf p6a)) (dt (nf p6b)) (dt p57a) (df p57b) (dt p67a) (dt p67b) (df p67c) (df p67d) (dt p67e)
          · rename_i p68a p68b p68c p68d p68e
            subst hA; exact hV.g68 _ _ hI0 _ _ hI2 (dt (nf p6a)) (dt (nf p6b)) (dt p57a) (df p57b) (dt p68a) (dt p68b) (df p68c) (df p68d) (dt p68e)
          · rename_i p69a p69b p69c p69d p69e
            subst hA; exact hV.g69 _ _ hI0 _ _ hI2 (dt (nf p6a)) (dt (nf p6b)) (dt p57a) (df p57b) (dt p69a) (dt p69b) (df p69c) (df p69d) (dt p69e)
          · rename_i p70a p70b p70c p70d p70e
            subst hA; exact hV.g70 _ _ hI0 _ _ hI2 (dt (nf p6a)) (dt (nf p6b)) (dt p57a) (df p57b) (dt p70a) (dt p70b) (df p70c) (df p70d) (dt p70e)
          · rename_i p71a p71b p71c p71d p71e
            subst hA; exact hV.g71 _ _ hI0 _ _ hI2 (dt (nf p6a)) (dt (nf p6b)) (dt p57a) (df p57b) (dt p71a) (dt p71b) (df p71c) (df p71d) (dt p71e)
          · rename_i p72a p72b p72c p72d p72e
            subst hA; exact hV.g72 _ _ hI0 _ _ hI2 (dt (nf p6a)) (dt (nf p6b)) (dt p57a) (df p57b) (dt p72a) (dt p72b) (df p72c) (df p72d) (dt p72e)
          · rename_i p73a p73b p73c p73d p73e
            subst hA; exact hV.g64 _ _ hI0 _ _ hI2 (dt (nf p6a)) (dt (nf p6b)) (dt p57a) (df p57b) (dt p73a) (dt p73b) (df p73c) (df p73d) (dt p73e)
          · rename_i p74a p74b p74c p74d p74e
            subst hA; exact hV.g65 _ _ hI0 _ _ hI2 (dt (nf p6a)) (dt (nf p6b)) (dt p57a) (df p57b) (dt p74a) (dt p74b) (df p74c) (df p74d) (dt p74e)
          · rename_i p75a p75b p75c p75d p75e
            subst hA; exact hV.g66 _ _ hI0 _ _ hI2 (dt (nf p6a)) (dt (nf p6b)) (dt p57a) (df p57b) (dt p75a) (dt p75b) (df p75c) (df p75d) (dt p75e)
          · rename_i p76a p76b p76c p76d p76e
            subst hA; exact hV.g76 _ _ hI0 _ _ hI2 (dt (nf p6a)) (dt (nf p6b)) (dt p57a) (df p57b) (dt p76a) (dt p76b) (df p76c) (df p76d) (dt p76e)
          · rename_i p77a p77b p77c p77d p77e
            refine hK2 (A.add x2_0 1, A.set x2_1 (A.toNat x0_1) [D.i (A.add (A.di (A.get x2_1 (A.toNat x0_1) 0)) (A.tdiv (A.sub (A.add (A.sub (A.di (fn 52 [[D.l x2_1], [D.i x2_0], [D.i x0_1], [D.i a1_1]] 0 0)) a1_0) a1_1) 1) a1_1))]) _ ?_ ?_ ?_
            · subst hA; exact (hV.n77 _ _ hI0 _ _ hI2 (dt (nf p6a)) (dt (nf p6b)) (dt p57a) (df p57b) (dt p77a) (dt p77b) (df p77c) (df p77d) (dt p77e)).1
            · subst hA; exact (hV.n77 _ _ hI0 _ _ hI2 (dt (nf p6a)) (dt (nf p6b)) (dt p57a) (df p57b) (dt p77a) (dt p77b) (df p77c) (df p77d) (dt p77e)).2
            · clear hE hinl hV hK2; cbv; (try (repeat' (first | exact True.intro | rfl | assumption | apply And.intro)))
          · rename_i p78a p78b p78c p78d p78e
            subst hA; exact hV.g78 _ _ hI0 _ _ hI2 (dt (nf p6a)) (dt (nf p6b)) (dt p57a) (df p57b) (dt p78a) (dt p78b) (df p78c) (df p78d) (df p78e)
          · rename_i p79a p79b p79c p79d p79e
            refine hK2 (A.add x2_0 1, x2_1) _ ?_ ?_ ?_
            · subst hA; exact (hV.n79 _ _ hI0 _ _ hI2 (dt (nf p6a)) (dt (nf p6b)) (dt p57a) (df p57b) (dt p79a) (dt p79b) (df p79c) (df p79d) (df p79e)).1
            · subst hA; exact (hV.n79 _ _ hI0 _ _ hI2 (dt (nf p6a)) (dt (nf p6b)) (dt p57a) (df p57b) (dt p79a) (dt p79b) (df p79c) (df p79d) (df p79e)).2
            · clear hE hinl hV hK2; cbv; (try (repeat' (first | exact True.intro | rfl | assumption | apply And.intro)))
          · rename_i p80a p80b p80c
            subst hA; exact hV.g80 _ _ hI0 _ _ hI2 (dt (nf p6a)) (dt (nf p6b)) (dt p57a) (df p57b) (dt p80a) (df p80b) (dt p80c)
          · rename_i p81a p81b p81c
            subst hA; exact hV.g81 _ _ hI0 _ _ hI2 (dt (nf p6a)) (dt (nf p6b)) (dt p57a) (df p57b) (dt p81a) (df p81b) (dt p81c)
          · rename_i p82a p82b p82c
            subst hA; exact hV.g82 _ _ hI0 _ _ hI2 (dt (nf p6a)) (dt (nf p6b)) (dt p57a) (df p57b) (dt p82a) (df p82b) (dt p82c)
          · rename_i p83a p83b p83c
            subst hA; exact hV.g82 _ _ hI0 _ _ hI2 (dt (nf p6a)) (dt (nf p6b)) (dt p57a) (df p57b) (dt p83a) (df p83b) (dt p83c)
          · rename_i p84a p84b p84c
            subst hA; exact hV.g84 _ _ hI0 _ _ hI2 (dt (nf p6a)) (dt (nf p6b)) (dt p57a) (df p57b) (dt p84a) (df p84b) (dt p84c)
          · rename_i p85a p85b p85c
            subst hA; exact hV.g85 _ _ hI0 _ _ hI2 (dt (nf p6a)) (dt (nf p6b)) (dt p57a) (df p57b) (dt p85a) (df p85b) (dt p85c)
          · rename_i p86a p86b p86c
            subst hA; exact hV.g86 _ _ hI0 _ _ hI2 (dt (nf p6a)) (dt (nf p6b)) (dt p57a) (df p57b) (dt p86a) (df p86b) (dt p86c)
          · rename_i p87a p87b p87c
            subst hA; exact hV.g87 _ _ hI0 _ _ hI2 (dt (nf p6a)) (dt (nf p6b)) (dt p57a) (df p57b) (dt p87a) (df p87b) (dt p87c)
          · rename_i p88a p88b p88c
            subst hA; exact hV.g88 _ _ hI0 _ _ hI2 (dt (nf p6a)) (dt (nf p6b)) (dt p57a) (df p57b) (dt p88a) (df p88b) (dt p88c)
          · rename_i p89a p89b p89c
            subst hA; exact hV.g80 _ _ hI0 _ _ hI2 (dt (nf p6a)) (dt (nf p6b)) (dt p57a) (df p57b) (dt p89a) (df p89b) (dt p89c)
          · rename_i p90a p90b p90c
            subst hA; exact hV.g81 _ _ hI0 _ _ hI2 (dt (nf p6a)) (dt (nf p6b)) (dt p57a) (df p57b) (dt p90a) (df p90b) (dt p90c)
          · rename_i p91a p91b p91c
            subst hA; exact hV.g82 _ _ hI0 _ _ hI2 (dt (nf p6a)) (dt (nf p6b)) (dt p57a) (df p57b) (dt p91a) (df p91b) (dt p91c)
          · rename_i p92a p92b p92c
            subst hA; exact hV.g92 _ _ hI0 _ _ hI2 (dt (nf p6a)) (dt (nf p6b)) (dt p57a) (df p57b) (dt p92a) (df p92b) (dt p92c)
          · rename_i p93a p93b p93c
            refine hK2 (A.add x2_0 1, A.set x2_1 (A.toNat x0_1) [D.i (A.add (A.di (A.get x2_1 (A.toNat x0_1) 0)) (A.tdiv (A.sub (A.add (A.sub (A.di (fn 52 [[D.l x2_1], [D.i x2_0], [D.i x0_1], [D.i a1_1]] 0 0)) a1_0) a1_1) 1) a1_1))]) _ ?_ ?_ ?_
            · subst hA; exact (hV.n93 _ _ hI0 _ _ hI2 (dt (nf p6a)) (dt (nf p6b)) (dt p57a) (df p57b) (dt p93a) (df p93b) (dt p93c)).1
            · subst hA; exact (hV.n93 _ _ hI0 _ _ hI2 (dt (nf p6a)) (dt (nf p6b)) (dt p57a) (df p57b) (dt p93a) (df p93b) (dt p93c)).2
            · clear hE hinl hV hK2; cbv; (try (repeat' (first | exact True.intro | rfl | assumption | apply And.intro)))
          · rename_i p94a p94b p94c
            subst hA; exact hV.g94 _ _ hI0 _ _ hI2 (dt (nf p6a)) (dt (nf p6b)) (dt p57a) (df p57b) (dt p94a) (df p94b) (df p94c)
          · rename_i p95a p95b p95c
            refine hK2 (A.add x2_0 1, x2_1) _ ?_ ?_ ?_
            · subst hA; exact (hV.n95 _ _ hI0 _ _ hI2 (dt (nf p6a)) (dt (nf p6b)) (dt p57a) (df p57b) (dt p95a) (df p95b) (df p95c)).1
            · subst hA; exact (hV.n95 _ _ hI0 _ _ hI2 (dt (nf p6a)) (dt (nf p6b)) (dt p57a) (df p57b) (dt p95a) (df p95b) (df p95c)).2
            · clear hE hinl hV hK2; cbv; (try (repeat' (first | exact True.intro | rfl | assumption | apply And.intro)))
          · rename_i p96a
            subst hA; exact hV.g96 _ _ hI0 _ _ hI2 (dt (nf p6a)) (dt (nf p6b)) (dt p57a) (df p57b) (df p96a)
          · rename_i p97a
            refine hK0 (x2_1, A.add x0_1 1) _ ?_ ?_ ?_
            · subst hA; exact (hV.n97 _ _ hI0 _ _ hI2 (dt (nf p6a)) (dt (nf p6b)) (dt p57a) (df p57b) (df p97a)).1
            · subst hA; exact (hV.n97 _ _ hI0 _ _ hI2 (dt (nf p6a)) (dt (nf p6b)) (dt p57a) (df p57b) (df p97a)).2
            · clear hE hinl hV hK0; cbv; (try (repeat' (first | exact True.intro | rfl | assumption | apply And.intro)))
      · rename_i p98a
        subst hA; exact hV.g98 _ _ hI0 (dt (nf p6a)) (dt (nf p6b)) (df p98a)
      · rename_i p99a
        subst hA; exact hV.g99 _ _ hI0 (dt (nf p6a)) (dt (nf p6b)) (df p99a)
end HX

namespace HX
open Go Go.Proofs CX
set_option maxHeartbeats 4000000 in
set_option maxRecDepth 100000 in
theorem walk19 {ro A pre fn} (hE : EnvOk ⟨A, (cxE ro), ksF, sigL [], pre, fn⟩) {P : List (List D) → Prop} {res : List (List D) → Nat → Nat → D}
    (hv : ∀ (a0 : Rows) (a1 : Rows), ShR [.int .i64] a0 → ShR [.int .i64] a1 → P [[.l a0], [.l a1]] → ∃ (I0 : Bool → Int → Prop) (m0 : Bool → Int → Nat), V19 a0 a1 (res [[.l a0], [.l a1]]) I0 m0) :
    PureC (cxE ro) 19 ⟨[(false, [.sl [.int .i64]]), (false, [.sl [.int .i64]])], [(false, [.bool])], false⟩ P res := by
  have hA := hE.A
  simp only [] at hA
  have hinl : ∀ f fn, inlL [] f = some fn → (cxE ro).fn f = some fn ∧ (cxE ro).ext f = none := Inls.ok (by repeat (first | exact .nil | refine .cons rfl rfl ?_))
  refine PureC.of_vc hE hinl 6 (f := 19) (fn := Tryz.f19) ⟨rfl, rfl⟩ ?_
  intro a0 ha0 a1 ha1 hP
  obtain ⟨R, hR⟩ : ∃ R, res [[.l a0], [.l a1]] = R := ⟨_, rfl⟩
  rw [hR]
  obtain ⟨I0, m0, hV⟩ := hv a0 a1 ha0 ha1 hP
  rw [hR] at hV
  clear hR hP hv
  cbv
  repeat' (first | (refine Br.mk (fun _ => ?_) (fun _ => ?_) <;> cbv) | (refine NilB.mk (fun _ => ?_) ?_ <;> cbv) | refine And.intro ?_ ?_ | exact True.intro)
  · rename_i p0a
    subst hA; exact hV.g0 (df (nt p0a))
  · rename_i p1a
    refine Leaf.gen fun σz hσz => ?_
    refine loopB hE hinl 6 [] [] [] (fun x : Bool × Int => [.b x.1, .i x.2]) (fun x => I0 x.1 x.2) (fun x => m0 x.1 x.2) (false, 0) (by subst hA; exact hV.i0 (dt (nf p1a))) ?_ ?_ <;> subst hσz
    · clear hE hinl hV; cbv; (try (repeat' (first | exact True.intro | rfl | assumption | apply And.intro)))
    · intro ⟨x0_0, x0_1⟩ hI0 K0 hK0
      cbv
      repeat' (first | (refine Br.mk (fun _ => ?_) (fun _ => ?_) <;> cbv) | (refine NilB.mk (fun _ => ?_) ?_ <;> cbv) | refine And.intro ?_ ?_ | exact True.intro)
      · rename_i p2a
        subst hA; exact hV.g2 _ _ hI0 (dt (nf p1a)) (dt p2a)
      · rename_i p3a
        subst hA; exact hV.g3 _ _ hI0 (dt (nf p1a)) (dt p3a)
      · rename_i p4a
        subst hA; exact hV.g4 _ _ hI0 (dt (nf p1a)) (dt p4a)
      · rename_i p5a
        subst hA; exact hV.g2 _ _ hI0 (dt (nf p1a)) (dt p5a)
      · rename_i p6a
        subst hA; exact hV.g6 _ _ hI0 (dt (nf p1a)) (dt p6a)
      · rename_i p7a
        subst hA; exact hV.g7 _ _ hI0 (dt (nf p1a)) (dt p7a)
      · rename_i p8a p8b
        subst hA; exact hV.g8 _ _ hI0 (dt (nf p1a)) (dt p8a) (df (nt p8b))
      · rename_i p9a p9b
        subst hA; exact hV.g9 _ _ hI0 (dt (nf p1a)) (dt p9a) (dt (nf p9b))
      · rename_i p10a p10b
        refine hK0 (x0_0, A.add x0_1 1) _ ?_ ?_ ?_
        · subst hA; exact (hV.n10 _ _ hI0 (dt (nf p1a)) (dt p10a) (dt (nf p10b))).1
        · subst hA; exact (hV.n10 _ _ hI0 (dt (nf p1a)) (dt p10a) (dt (nf p10b))).2
        · clear hE hinl hV hK0; cbv; (try (repeat' (first | exact True.intro | rfl | assumption | apply And.intro)))
      · rename_i p11a
        subst hA; exact hV.g11 _ _ hI0 (dt (nf p1a)) (df p11a)
end HX

namespace HX
open Go Go.Proofs CX
abbrev tru : List (List D) → Prop := fun _ => True
def r11 : List (List D) → Nat → Nat → D
  | [[.i a, .i _]], _, 0 => .i a
  | [[.i _, .i b]], _, _ => .i b
  | _, _, _ => .nil
def r14 : List (List D) → Nat → Nat → D
  | [[.i a, .i b]], _, _ => .i (crE a b)
  | _, _, _ => .nil
noncomputable def r48 : List (List D) → Nat → Nat → D
  | [[.l l]], _, _ => .i (allE l)
  | _, _, _ => .nil
open Classical in
noncomputable def r87 : List (List D) → Nat → Nat → D
  | [[.l l]], _, _ => .b (decide (srt l))
  | _, _, _ => .nil
noncomputable def r49 : List (List D) → Nat → Nat → D
  | [[.l l]], _, _ => .i (tmE l)
  | _, _, _ => .nil
def r52 : List (List D) → Nat → Nat → D
  | [[.l l], [.i i], [.i k], [.i r]], _, _ => .i (ndE l i k r)
  | _, _, _ => .nil
def p52 : List (List D) → Prop
  | [[.l l], [.i i], [.i k], [.i r]] => okN l i k r
  | _ => False
noncomputable def r15 : List (List D) → Nat → Nat → D
  | [[.l l], [.i r]], 0, _ => .i (buB l r)
  | [[.l l], [.i r]], _, _ => .i (buE l r)
  | _, _, _ => .nil
noncomputable def r10 : List (List D) → Nat → Nat → D
  | [[.l l], [.i b, .i r]], 0, _ => .b (kpB l b r)
  | [[.l l], [.i b, .i r]], _, _ => .i (kpE l b r)
  | _, _, _ => .nil
noncomputable def r17 : List (List D) → Nat → Nat → D
  | [[.l l], [.i b, .i r]], 0, _ => .l (shL l b r)
  | [[.l l], [.i b, .i r]], _, _ => .i (shE l b r)
  | _, _, _ => .nil
def p19 : List (List D) → Prop
  | [[.l a], [.l b]] => b = a
  | _ => False
noncomputable def c11 : Ctr := ⟨11, ⟨[(true, [.int .i64, .int .i64])], [(true, [.int .i64, .int .i64])], false⟩, tru, r11⟩
noncomputable def c14 : Ctr := ⟨14, ⟨[(true, [.int .i64, .int .i64])], [(false, [.int .i64])], false⟩, tru, r14⟩
noncomputable def c48 : Ctr := ⟨48, ⟨[(false, [.sl [.int .i64, .int .i64]])], [(false, [.int .i64])], false⟩, tru, r48⟩
noncomputable def c13 : Ctr := ⟨13, ⟨[(true, [.int .i64, .int .i64])], [(false, [.int .i64])], false⟩, tru, r14⟩
noncomputable def c87 : Ctr := ⟨87, ⟨[(false, [.sl [.int .i64]])], [(false, [.bool])], false⟩, tru, r87⟩
noncomputable def c49 : Ctr := ⟨49, ⟨[(false, [.sl [.int .i64]])], [(false, [.int .i64])], false⟩, tru, r49⟩
noncomputable def c51 : Ctr := ⟨51, ⟨[(false, [.sl [.int .i64]])], [(false, [.int .i64])], false⟩, tru, r49⟩
noncomputable def c52 : Ctr := ⟨52, ⟨[(false, [.sl [.int .i64]]), (false, [.int .i64]), (false, [.int .i64]), (false, [.int .i64])], [(false, [.int .i64])], false⟩, p52, r52⟩
noncomputable def c15 : Ctr := ⟨15, ⟨[(false, [.sl [.int .i64]]), (false, [.int .i64])], [(false, [.int .i64]), (false, [.int .i64])], false⟩, tru, r15⟩
noncomputable def c16 : Ctr := ⟨16, ⟨[(false, [.sl [.int .i64]]), (false, [.int .i64])], [(false, [.int .i64]), (false, [.int .i64])], false⟩, tru, r15⟩
noncomputable def c10 : Ctr := ⟨10, ⟨[(false, [.sl [.int .i64]]), (true, [.int .i64, .int .i64])], [(false, [.bool]), (false, [.int .i64])], false⟩, tru, r10⟩
noncomputable def c12 : Ctr := ⟨12, ⟨[(false, [.sl [.int .i64]]), (true, [.int .i64, .int .i64])], [(false, [.bool]), (false, [.int .i64])], false⟩, tru, r10⟩
noncomputable def c17 : Ctr := ⟨17, ⟨[(false, [.sl [.int .i64]]), (true, [.int .i64, .int .i64])], [(false, [.sl [.int .i64]]), (false, [.int .i64])], false⟩, tru, r17⟩
noncomputable def c18 : Ctr := ⟨18, ⟨[(false, [.sl [.int .i64]]), (true, [.int .i64, .int .i64])], [(false, [.sl [.int .i64]]), (false, [.int .i64])], false⟩, tru, r17⟩
noncomputable def c19 : Ctr := ⟨19, ⟨[(false, [.sl [.int .i64]]), (false, [.sl [.int .i64]])], [(false, [.bool])], false⟩, p19, (fun _ _ _ => .b true)⟩
noncomputable def c9 : Ctr := ⟨9, ⟨[], [(false, [.bool])], false⟩, tru, (fun _ _ _ => .b true)⟩
section
variable (ro : Addr → Option V)
theorem k11 : PureC (cxE ro) c11.f c11.sg c11.pre c11.res := walk11 (envL (l := []) .nil) fun _ _ _ => law11 rfl rfl
theorem k14 : PureC (cxE ro) c14.f c14.sg c14.pre c14.res := walk14 (envL (l := []) .nil) fun _ _ _ => law14 rfl
theorem k48 : PureC (cxE ro) c48.f c48.sg c48.pre c48.res := walk48 (envL (l := []) .nil) fun _ ha _ => ⟨_, _, law48 ha.2 rfl⟩
theorem k13 : PureC (cxE ro) c13.f c13.sg c13.pre c13.res := walk13 (envL (l := [c48]) (.cons (k48 ro) .nil)) fun _ _ _ => law13 (fun _ => trivial) (fun _ => rfl) rfl
theorem k87 : PureC (cxE ro) c87.f c87.sg c87.pre c87.res := walk87 (envL (l := []) .nil) fun _ ha _ => ⟨_, _, law87 ha.2 rfl⟩
theorem k49 : PureC (cxE ro) c49.f c49.sg c49.pre c49.res := walk49 (envL (l := [c87]) (.cons (k87 ro) .nil)) fun _ ha _ => ⟨_, _, law49 (fun _ => trivial) (fun _ => rfl) ha.2 rfl⟩
theorem k51 : PureC (cxE ro) c51.f c51.sg c51.pre c51.res := walk51 (envL (l := []) .nil) fun _ ha _ => ⟨_, _, _, _, law51 ha.2 rfl⟩
theorem k52 : PureC (cxE ro) c52.f c52.sg c52.pre c52.res := walk52 (envL (l := []) .nil) fun _ _ _ _ _ h => law52 h rfl
theorem k15 : PureC (cxE ro) c15.f c15.sg c15.pre c15.res := walk15 (envL (l := [c49]) (.cons (k49 ro) .nil)) fun _ _ _ _ => ⟨_, _, law15 (fun _ => trivial) (fun _ => rfl) rfl rfl⟩
theorem k16 : PureC (cxE ro) c16.f c16.sg c16.pre c16.res := walk16 (envL (l := [c51, c52]) (.cons (k51 ro) (.cons (k52 ro) .nil))) fun _ _ _ _ => ⟨_, _, _, _, law16 (fun _ => trivial) (fun _ => rfl) (fun _ _ _ _ h => h) (fun _ _ _ _ => rfl) rfl rfl⟩
theorem k10 : PureC (cxE ro) c10.f c10.sg c10.pre c10.res := walk10 (envL (l := [c13, c15]) (.cons (k13 ro) (.cons (k15 ro) .nil))) fun _ _ _ _ _ => law10 (fun _ => trivial) (fun _ _ => rfl) (fun _ => trivial) (fun _ _ => ⟨rfl, rfl⟩) rfl rfl
theorem k12 : PureC (cxE ro) c12.f c12.sg c12.pre c12.res := walk12 (envL (l := [c14, c16]) (.cons (k14 ro) (.cons (k16 ro) .nil))) fun _ _ _ _ _ => law12 (fun _ => trivial) (fun _ _ => rfl) (fun _ => trivial) (fun _ _ => ⟨rfl, rfl⟩) rfl rfl
theorem k17 : PureC (cxE ro) c17.f c17.sg c17.pre c17.res := walk17 (envL (l := [c13, c49]) (.cons (k13 ro) (.cons (k49 ro) .nil))) fun _ _ _ _ _ => ⟨_, _, law17 (fun _ => trivial) (fun _ _ => rfl) (fun _ => trivial) (fun _ => rfl) rfl rfl⟩
theorem k18 : PureC (cxE ro) c18.f c18.sg c18.pre c18.res := walk18 (envL (l := [c14, c51, c52]) (.cons (k14 ro) (.cons (k51 ro) (.cons (k52 ro) .nil)))) fun _ _ _ _ _ => ⟨_, _, _, _, _, _, law18 (fun _ => trivial) (fun _ _ => rfl) (fun _ => trivial) (fun _ => rfl) (fun _ _ _ _ h => h) (fun _ _ _ _ => rfl) rfl rfl⟩
theorem k19 : PureC (cxE ro) c19.f c19.sg c19.pre c19.res := walk19 (envL (l := []) .nil) fun _ _ ha _ h => ⟨_, _, law19' h ha.2 rfl⟩
theorem k9 : PureC (cxE ro) c9.f c9.sg c9.pre c9.res := works_pure
end
noncomputable def l3 : List Ctr := [c9, c10, c11, c12, c13, c14, c15, c16, c17, c18, c19]
theorem k_l3 (ro : Addr → Option V) : Ctrs (cxE ro) l3 := (.cons (k9 ro) (.cons (k10 ro) (.cons (k11 ro) (.cons (k12 ro) (.cons (k13 ro) (.cons (k14 ro) (.cons (k15 ro) (.cons (k16 ro) (.cons (k17 ro) (.cons (k18 ro) (.cons (k19 ro) .nil)))))))))))
end HX

namespace HX
open Go Go.Proofs CX
theorem law3' {a0 : Rows} {b r c : Int} : V3 (preOf l3) (resOf l3) a0 b r c (fun _ _ => .b true) :=
  law3 trivial rfl (fun _ => trivial) (fun _ _ => ⟨rfl, rfl⟩) (fun _ => trivial) (fun _ _ => rfl) (fun _ => trivial) (fun _ _ => rfl)
    (fun _ => trivial) (fun _ _ _ => ⟨rfl, rfl⟩) (fun _ => trivial) (fun _ _ _ => ⟨rfl, rfl⟩) (fun _ => trivial) (fun _ _ => ⟨rfl, rfl⟩) (fun _ => trivial) (fun _ _ => ⟨rfl, rfl⟩)
    (fun _ => trivial) (fun _ _ _ => ⟨rfl, rfl⟩) (fun _ => trivial) (fun _ _ _ => ⟨rfl, rfl⟩) (fun _ => rfl) (fun _ => rfl) rfl
end HX

namespace Go.Proofs.YtlijpmeeldoofaaGreat.calcTimes
open Go.ChangeShapes Go.WideShapes Go.ChangeAt Go.RowKit HX

def ps : List (Bool × List Kd) := [(false, [.sl [.int .i64]]), (true, [.int .i64, .int .i64]), (false, [.int .i64])]
theorem law (ro : Addr → Option CX.V) : PureC0 (cxE ro) 3 ⟨ps, [(false, [.bool])], false⟩ (RngAll ps) trueRes := walk3 (envL (l := l3) (k_l3 ro)) fun _ _ _ _ _ _ => law3'

theorem lenN {α β : Type} {F : List α → β} {G : List α → β} (h : ∀ a b c, F [a, b, c] = G [a, b, c]) : ∀ ds : List α, ds.length = 3 → F ds = G ds
  | [a, b, c], _ => h a b c

set_option maxRecDepth 100000 in
set_option maxHeartbeats 400000 in
theorem lifted (os : Os) (started : os.Started) (H : Type) (enc : TypeId × Value → H) :
    ReturnsInHanded {} Tryz.checked os 3 .any (Rows.calcTimesSpec.pre6 enc Tryz.prog Tryz.f3 Rows.calcTimesRow.domain false) (Rows.calcTimesSpec.post enc Tryz.prog Tryz.f3 false true false false) := by
  refine returnsInHanded_of_change (C := Tryz.checked) own started (by kernel_rfl) Tryz.func3
    (ChangeSpec.witness6 (enc := enc) (C := Tryz.checked) false ⟨#[], #[.slice none 0 0, .agg #[.int .i64 0, .int .i64 0], .int .i64 0], []⟩ 8 (by kernel_rfl) (by kernel_rfl) (by kernel_rfl) (by kernel_rfl)) ?_
  intro W base args ds gs before hval hW _ _
  exact said (f := Tryz.f3) (s := Rows.calcTimesSpec) (n := 8) (tb := 4) cxE_ok law (by kernel_rfl) laid (by kernel_rfl) rfl Tryz.underlying4
    (lenN (F := Rows.calcTimesSpec.fn H) (G := fun ds => ⟨[.lit (.bool true)], ds, []⟩) fun _ _ _ => rfl) rfl W base args ds gs before hval hW

theorem holds : Rows.CalcTimesSaid :=
  OpenClaim.holds_of_wide 3 Tryz.f3 rfl rfl rfl rfl rfl rfl rfl ⟨rfl, rfl, rfl, rfl, rfl⟩ rfl rfl rfl rfl rfl (by kernel_rfl) Tryz.func3 (by kernel_rfl)
    (of_decide_eq_true (by kernel_rfl)) (by unfold Func.isWrapper; first | (rw [if_pos (by decide +kernel)]; kernel_rfl) | (rw [if_neg (by decide +kernel)]; exact ⟨rfl, rfl⟩))
    (fun os started H enc _ => lifted os started H enc)
end Go.Proofs.YtlijpmeeldoofaaGreat.calcTimes
