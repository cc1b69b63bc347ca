/-
  CalcLeast: for all lists and rates, the function returns true, and its arguments read as they did.
-/
import Derived.Test.YtlijpmeeldoofaaCalcLeast9
import Derived.Test.YtlijpmeeldoofaaRows
set_option linter.all false
namespace HX
open Go Go.Proofs CX
set_option maxHeartbeats 4000000 in
set_option maxRecDepth 100000 in
theorem walk6 {ro A pre fn} (hE : EnvOk ⟨A, (cxE ro), ksF, sigL [], pre, fn⟩) {P : List (List D) → Prop} {res : List (List D) → Nat → Nat → D}
    (hv : ∀ (a0 : Rows), ShR [.int .u8] a0 → P [[.l a0]] → ∃ (I0 : Int → Rows → Int → Prop) (m0 : Int → Rows → Int → Nat), V6 a0 (res [[.l a0]]) I0 m0) :
    PureC (cxE ro) 6 ⟨[(false, [.sl [.int .u8]])], [(false, [.sl [.int .i64]])], false⟩ P res := by
  have hA := hE.A
  simp only [] at hA
  have hinl : ∀ f fn, inlL [] f = some fn → (cxE ro).fn f = some fn ∧ (cxE ro).ext f = none := Inls.ok (by repeat (first | exact .nil | refine .cons rfl rfl ?_))
  refine PureC.of_vc hE hinl 6 (f := 6) (fn := Try.f6) ⟨rfl, rfl⟩ ?_
  intro a0 ha0 hP
  obtain ⟨R, hR⟩ : ∃ R, res [[.l a0]] = R := ⟨_, rfl⟩
  rw [hR]
  obtain ⟨I0, m0, hV⟩ := hv a0 ha0 hP
  rw [hR] at hV
  clear hR hP hv
  cbv
  repeat' (first | (refine Br.mk (fun _ => ?_) (fun _ => ?_) <;> cbv) | (refine NilB.mk (fun _ => ?_) ?_ <;> cbv) | refine And.intro ?_ ?_ | exact True.intro)
  · refine Leaf.gen fun σz hσz => ?_
    refine loopB hE hinl 6 [] [] [] (fun x : Int × Rows × Int => [.i x.1, .l x.2.1, .i x.2.2]) (fun x => I0 x.1 x.2.1 x.2.2) (fun x => m0 x.1 x.2.1 x.2.2) (0, [], 0) (by subst hA; exact hV.i0) ?_ ?_ <;> subst hσz
    · clear hE hinl hV; cbv; (try (repeat' (first | exact True.intro | rfl | assumption | apply And.intro)))
    · intro ⟨x0_0, x0_1, x0_2⟩ hI0 K0 hK0
      cbv
      repeat' (first | (refine Br.mk (fun _ => ?_) (fun _ => ?_) <;> cbv) | (refine NilB.mk (fun _ => ?_) ?_ <;> cbv) | refine And.intro ?_ ?_ | exact True.intro)
      · rename_i hp1_0
        subst hA; exact hV.g1 _ _ _ hI0 (dt hp1_0)
      · rename_i hp2_0
        subst hA; exact hV.g2 _ _ _ hI0 (dt hp2_0)
      · rename_i hp3_0
        subst hA; exact hV.g3 _ _ _ hI0 (dt hp3_0)
      · rename_i hp4_0
        subst hA; exact hV.g4 _ _ _ hI0 (dt hp4_0)
      · rename_i hp5_0
        subst hA; exact hV.g5 _ _ _ hI0 (dt hp5_0)
      · rename_i hp6_0
        subst hA; exact hV.g6 _ _ _ hI0 (dt hp6_0)
      · rename_i hp7_0
        subst hA; exact hV.g7 _ _ _ hI0 (dt hp7_0)
      · rename_i hp8_0
        subst hA; exact hV.g8 _ _ _ hI0 (dt hp8_0)
      · rename_i hp9_0
        refine hK0 (A.add x0_0 (A.tmod (A.di (A.get a0 (A.toNat x0_2) 0)) 7), A.app x0_1 [[D.i (A.add x0_0 (A.tmod (A.di (A.get a0 (A.toNat x0_2) 0)) 7))]], A.add x0_2 1) _ ?_ ?_ ?_
        · subst hA; exact (hV.n9 _ _ _ hI0 (dt hp9_0)).1
        · subst hA; exact (hV.n9 _ _ _ hI0 (dt hp9_0)).2
        · clear hE hinl hV hK0; cbv; (try (repeat' (first | exact True.intro | rfl | assumption | apply And.intro)))
      · rename_i hp10_0
        subst hA; exact hV.g10 _ _ _ hI0 (df hp10_0)
end HX

namespace HX
open Go Go.Proofs CX
set_option maxHeartbeats 4000000 in
set_option maxRecDepth 100000 in
theorem walk8 {ro A pre fn} (hE : EnvOk ⟨A, (cxE ro), ksF, sigL [], pre, fn⟩) {P : List (List D) → Prop} {res : List (List D) → Nat → Nat → D}
    (hv : ∀ (a0 : Rows) (a1_0 : Int) (a1_1 : Int), ShR [.int .i64] a0 → P [[.l a0], [.i a1_0, .i a1_1]] → ∃ (I0 : Bool → Int → Prop) (m0 : Bool → Int → Nat) (I1 : Bool → Int → Bool → Int → Prop) (m1 : Bool → Int → Bool → Int → Nat), V8 a0 a1_0 a1_1 (res [[.l a0], [.i a1_0, .i a1_1]]) I0 m0 I1 m1) :
    PureC (cxE ro) 8 ⟨[(false, [.sl [.int .i64]]), (true, [.int .i64, .int .i64])], [(false, [.bool])], false⟩ P res := by
  have hA := hE.A
  simp only [] at hA
  have hinl : ∀ f fn, inlL [] f = some fn → (cxE ro).fn f = some fn ∧ (cxE ro).ext f = none := Inls.ok (by repeat (first | exact .nil | refine .cons rfl rfl ?_))
  refine PureC.of_vc hE hinl 6 (f := 8) (fn := Try.f8) ⟨rfl, rfl⟩ ?_
  intro a0 ha0 a1_0 a1_1 hP
  obtain ⟨R, hR⟩ : ∃ R, res [[.l a0], [.i a1_0, .i a1_1]] = R := ⟨_, rfl⟩
  rw [hR]
  obtain ⟨I0, m0, I1, m1, hV⟩ := hv a0 a1_0 a1_1 ha0 hP
  rw [hR] at hV
  clear hR hP hv
  cbv
  repeat' (first | (refine Br.mk (fun _ => ?_) (fun _ => ?_) <;> cbv) | (refine NilB.mk (fun _ => ?_) ?_ <;> cbv) | refine And.intro ?_ ?_ | exact True.intro)
  · refine Leaf.gen fun σz hσz => ?_
    refine loopB hE hinl 6 [] [] [] (fun x : Bool × Int => [.b x.1, .i x.2]) (fun x => I0 x.1 x.2) (fun x => m0 x.1 x.2) (false, 0) (by subst hA; exact hV.i0) ?_ ?_ <;> subst hσz
    · clear hE hinl hV; cbv; (try (repeat' (first | exact True.intro | rfl | assumption | apply And.intro)))
    · intro ⟨x0_0, x0_1⟩ hI0 K0 hK0
      cbv
      repeat' (first | (refine Br.mk (fun _ => ?_) (fun _ => ?_) <;> cbv) | (refine NilB.mk (fun _ => ?_) ?_ <;> cbv) | refine And.intro ?_ ?_ | exact True.intro)
      · rename_i hp1_0
        refine Leaf.gen fun σz hσz => ?_
        refine loopB hE hinl 6 [] [] [] (fun x : Bool × Int => [.b x.1, .i x.2]) (fun x => I1 x0_0 x0_1 x.1 x.2) (fun x => m1 x0_0 x0_1 x.1 x.2) (x0_0, x0_1) (by subst hA; exact hV.i1 _ _ hI0 (dt hp1_0)) ?_ ?_ <;> subst hσz
        · clear hE hinl hV; cbv; (try (repeat' (first | exact True.intro | rfl | assumption | apply And.intro)))
        · intro ⟨x1_0, x1_1⟩ hI1 K1 hK1
          cbv
          repeat' (first | (refine Br.mk (fun _ => ?_) (fun _ => ?_) <;> cbv) | (refine NilB.mk (fun _ => ?_) ?_ <;> cbv) | refine And.intro ?_ ?_ | exact True.intro)
          · rename_i hp2_0
            subst hA; exact hV.g2 _ _ hI0 _ _ hI1 (dt hp1_0) (dt hp2_0)
          · rename_i hp3_0
            subst hA; exact hV.g3 _ _ hI0 _ _ hI1 (dt hp1_0) (dt hp3_0)
          · rename_i hp4_0
            subst hA; exact hV.g4 _ _ hI0 _ _ hI1 (dt hp1_0) (dt hp4_0)
          · rename_i hp5_0
            subst hA; exact hV.g5 _ _ hI0 _ _ hI1 (dt hp1_0) (dt hp5_0)
          · rename_i hp6_0
            subst hA; exact hV.g6 _ _ hI0 _ _ hI1 (dt hp1_0) (dt hp6_0)
          · rename_i hp7_0
            subst hA; exact hV.g7 _ _ hI0 _ _ hI1 (dt hp1_0) (dt hp7_0)
          · rename_i hp8_0
            subst hA; exact hV.g8 _ _ hI0 _ _ hI1 (dt hp1_0) (dt hp8_0)
          · rename_i hp9_0
            subst hA; exact hV.g9 _ _ hI0 _ _ hI1 (dt hp1_0) (dt hp9_0)
          · rename_i hp10_0
            subst hA; exact hV.g10 _ _ hI0 _ _ hI1 (dt hp1_0) (dt hp10_0)
          · rename_i hp11_0
            subst hA; exact hV.g11 _ _ hI0 _ _ hI1 (dt hp1_0) (dt hp11_0)
          · rename_i hp12_0
            subst hA; exact hV.g12 _ _ hI0 _ _ hI1 (dt hp1_0) (dt hp12_0)
          · rename_i hp13_0
            subst hA; exact hV.g13 _ _ hI0 _ _ hI1 (dt hp1_0) (dt hp13_0)
          · rename_i hp14_0
            subst hA; exact hV.g14 _ _ hI0 _ _ hI1 (dt hp1_0) (dt hp14_0)
          · rename_i hp15_0 hp15_1
            subst hA; exact hV.g15 _ _ hI0 _ _ hI1 (dt hp1_0) (dt hp15_0) (dt hp15_1)
          · rename_i hp16_0 hp16_1
            subst hA; exact hV.g16 _ _ hI0 _ _ hI1 (dt hp1_0) (dt hp16_0) (df hp16_1)
          · rename_i hp17_0 hp17_1
            refine hK1 (x1_0, A.add x1_1 1) _ ?_ ?_ ?_
            · subst hA; exact (hV.n17 _ _ hI0 _ _ hI1 (dt hp1_0) (dt hp17_0) (df hp17_1)).1
            · subst hA; exact (hV.n17 _ _ hI0 _ _ hI1 (dt hp1_0) (dt hp17_0) (df hp17_1)).2
            · clear hE hinl hV hK1; cbv; (try (repeat' (first | exact True.intro | rfl | assumption | apply And.intro)))
          · rename_i hp18_0
            subst hA; exact hV.g18 _ _ hI0 _ _ hI1 (dt hp1_0) (df hp18_0)
          · rename_i hp19_0
            refine hK0 (x1_0, A.add x0_1 1) _ ?_ ?_ ?_
            · subst hA; exact (hV.n19 _ _ hI0 _ _ hI1 (dt hp1_0) (df hp19_0)).1
            · subst hA; exact (hV.n19 _ _ hI0 _ _ hI1 (dt hp1_0) (df hp19_0)).2
            · clear hE hinl hV hK0; cbv; (try (repeat' (first | exact True.intro | rfl | assumption | apply And.intro)))
      · rename_i hp20_0
        subst hA; exact hV.g20 _ _ hI0 (df hp20_0)
end HX

namespace HX
open Go Go.Proofs CX
set_option maxHeartbeats 4000000 in
set_option maxRecDepth 100000 in
theorem walk9 {ro A pre fn} (hE : EnvOk ⟨A, (cxE ro), ksF, sigL [], pre, fn⟩) {P : List (List D) → Prop} {res : List (List D) → Nat → Nat → D}
    (hv : ∀ (a0 : Int) (a1 : Int), P [[.i a0], [.i a1]] → V9 a0 a1 (res [[.i a0], [.i a1]]) ) :
    PureC (cxE ro) 9 ⟨[(false, [.int .i64]), (false, [.int .i64])], [(true, [.int .i64, .int .i64])], false⟩ P res := by
  have hA := hE.A
  simp only [] at hA
  have hinl : ∀ f fn, inlL [] f = some fn → (cxE ro).fn f = some fn ∧ (cxE ro).ext f = none := Inls.ok (by repeat (first | exact .nil | refine .cons rfl rfl ?_))
  refine PureC.of_vc hE hinl 6 (f := 9) (fn := Try.f9) ⟨rfl, rfl⟩ ?_
  intro a0 a1 hP
  obtain ⟨R, hR⟩ : ∃ R, res [[.i a0], [.i a1]] = R := ⟨_, rfl⟩
  rw [hR]
  have hV := hv a0 a1  hP
  rw [hR] at hV
  clear hR hP hv
  cbv
  repeat' (first | (refine Br.mk (fun _ => ?_) (fun _ => ?_) <;> cbv) | (refine NilB.mk (fun _ => ?_) ?_ <;> cbv) | refine And.intro ?_ ?_ | exact True.intro)
  · subst hA; exact hV.g0
  · subst hA; exact hV.g1
end HX

namespace HX
open Go Go.Proofs CX
set_option maxHeartbeats 4000000 in
set_option maxRecDepth 100000 in
theorem walk21 {ro A pre fn} (hE : EnvOk ⟨A, (cxE ro), ksF, sigL [], pre, fn⟩) {P : List (List D) → Prop} {res : List (List D) → Nat → Nat → D}
    (hv : ∀ (a0 : Rows), ShR [.int .i64, .int .i64] a0 → P [[.l a0]] → ∃ (I0 : Int → Int → Prop) (m0 : Int → Int → Nat), V21 a0 (res [[.l a0]]) I0 m0) :
    PureC (cxE ro) 21 ⟨[(false, [.sl [.int .i64, .int .i64]])], [(false, [.int .i64])], false⟩ P res := by
  have hA := hE.A
  simp only [] at hA
  have hinl : ∀ f fn, inlL [] f = some fn → (cxE ro).fn f = some fn ∧ (cxE ro).ext f = none := Inls.ok (by repeat (first | exact .nil | refine .cons rfl rfl ?_))
  refine PureC.of_vc hE hinl 6 (f := 21) (fn := Try.f21) ⟨rfl, rfl⟩ ?_
  intro a0 ha0 hP
  obtain ⟨R, hR⟩ : ∃ R, res [[.l a0]] = R := ⟨_, rfl⟩
  rw [hR]
  obtain ⟨I0, m0, hV⟩ := hv a0 ha0 hP
  rw [hR] at hV
  clear hR hP hv
  cbv
  repeat' (first | (refine Br.mk (fun _ => ?_) (fun _ => ?_) <;> cbv) | (refine NilB.mk (fun _ => ?_) ?_ <;> cbv) | refine And.intro ?_ ?_ | exact True.intro)
  · refine Leaf.gen fun σz hσz => ?_
    refine loopB hE hinl 6 [] [] [] (fun x : Int × Int => [.i x.1, .i x.2]) (fun x => I0 x.1 x.2) (fun x => m0 x.1 x.2) (0, 0) (by subst hA; exact hV.i0) ?_ ?_ <;> subst hσz
    · clear hE hinl hV; cbv; (try (repeat' (first | exact True.intro | rfl | assumption | apply And.intro)))
    · intro ⟨x0_0, x0_1⟩ hI0 K0 hK0
      cbv
      repeat' (first | (refine Br.mk (fun _ => ?_) (fun _ => ?_) <;> cbv) | (refine NilB.mk (fun _ => ?_) ?_ <;> cbv) | refine And.intro ?_ ?_ | exact True.intro)
      · rename_i hp1_0
        subst hA; exact hV.g1 _ _ hI0 (dt hp1_0)
      · rename_i hp2_0
        subst hA; exact hV.g2 _ _ hI0 (dt hp2_0)
      · rename_i hp3_0
        subst hA; exact hV.g3 _ _ hI0 (dt hp3_0)
      · rename_i hp4_0 hp4_1
        subst hA; exact hV.g4 _ _ hI0 (dt hp4_0) (dt hp4_1)
      · rename_i hp5_0 hp5_1 hp5_2
        subst hA; exact hV.g5 _ _ hI0 (dt hp5_0) (df hp5_1) (dt hp5_2)
      · rename_i hp6_0 hp6_1 hp6_2 hp6_3
        subst hA; exact hV.g6 _ _ hI0 (dt hp6_0) (df hp6_1) (df hp6_2) (dt hp6_3)
      · rename_i hp7_0 hp7_1 hp7_2 hp7_3 hp7_4
        subst hA; exact hV.g7 _ _ hI0 (dt hp7_0) (df hp7_1) (df hp7_2) (df hp7_3) (dt hp7_4)
      · rename_i hp8_0 hp8_1 hp8_2 hp8_3 hp8_4
        subst hA; exact hV.g8 _ _ hI0 (dt hp8_0) (df hp8_1) (df hp8_2) (df hp8_3) (df hp8_4)
      · rename_i hp9_0 hp9_1 hp9_2 hp9_3 hp9_4
        refine hK0 (x0_0, A.add x0_1 1) _ ?_ ?_ ?_
        · subst hA; exact (hV.n9 _ _ hI0 (dt hp9_0) (df hp9_1) (df hp9_2) (df hp9_3) (df hp9_4)).1
        · subst hA; exact (hV.n9 _ _ hI0 (dt hp9_0) (df hp9_1) (df hp9_2) (df hp9_3) (df hp9_4)).2
        · clear hE hinl hV hK0; cbv; (try (repeat' (first | exact True.intro | rfl | assumption | apply And.intro)))
      · rename_i hp10_0
        subst hA; exact hV.g10 _ _ hI0 (df hp10_0)
end HX

namespace HX
open Go Go.Proofs CX
set_option maxHeartbeats 4000000 in
set_option maxRecDepth 100000 in
theorem walk20 {ro A pre fn} (hE : EnvOk ⟨A, (cxE ro), ksF, sigL [(21, ⟨[(false, [.sl [.int .i64, .int .i64]])], [(false, [.int .i64])], false⟩)], pre, fn⟩) {P : List (List D) → Prop} {res : List (List D) → Nat → Nat → D}
    (hv : ∀ (a0_0 : Int) (a0_1 : Int), P [[.i a0_0, .i a0_1]] → V20 pre fn a0_0 a0_1 (res [[.i a0_0, .i a0_1]]) ) :
    PureC (cxE ro) 20 ⟨[(true, [.int .i64, .int .i64])], [(false, [.int .i64])], false⟩ P res := by
  have hA := hE.A
  simp only [] at hA
  have hinl : ∀ f fn, inlL [] f = some fn → (cxE ro).fn f = some fn ∧ (cxE ro).ext f = none := Inls.ok (by repeat (first | exact .nil | refine .cons rfl rfl ?_))
  refine PureC.of_vc hE hinl 6 (f := 20) (fn := Try.f20) ⟨rfl, rfl⟩ ?_
  intro a0_0 a0_1 hP
  obtain ⟨R, hR⟩ : ∃ R, res [[.i a0_0, .i a0_1]] = R := ⟨_, rfl⟩
  rw [hR]
  have hV := hv a0_0 a0_1  hP
  rw [hR] at hV
  clear hR hP hv
  cbv
  repeat' (first | (refine Br.mk (fun _ => ?_) (fun _ => ?_) <;> cbv) | (refine NilB.mk (fun _ => ?_) ?_ <;> cbv) | refine And.intro ?_ ?_ | exact True.intro)
  · subst hA; exact hV.g0
  · subst hA; exact hV.g1
end HX

namespace HX
open Go Go.Proofs CX
set_option maxHeartbeats 4000000 in
set_option maxRecDepth 100000 in
theorem walk38 {ro A pre fn} (hE : EnvOk ⟨A, (cxE ro), ksF, sigL [], pre, fn⟩) {P : List (List D) → Prop} {res : List (List D) → Nat → Nat → D}
    (hv : ∀ (a0 : Rows), ShR [.int .i64] a0 → P [[.l a0]] → ∃ (I0 : Bool → Int → Prop) (m0 : Bool → Int → Nat), V38 a0 (res [[.l a0]]) I0 m0) :
    PureC (cxE ro) 38 ⟨[(false, [.sl [.int .i64]])], [(false, [.bool])], false⟩ P res := by
  have hA := hE.A
  simp only [] at hA
  have hinl : ∀ f fn, inlL [(51, Try.f51), (66, Try.f66)] f = some fn → (cxE ro).fn f = some fn ∧ (cxE ro).ext f = none := Inls.ok (by repeat (first | exact .nil | refine .cons rfl rfl ?_))
  refine PureC.of_vc hE hinl 6 (f := 38) (fn := Try.f38) ⟨rfl, rfl⟩ ?_
  intro a0 ha0 hP
  obtain ⟨R, hR⟩ : ∃ R, res [[.l a0]] = R := ⟨_, rfl⟩
  rw [hR]
  obtain ⟨I0, m0, hV⟩ := hv a0 ha0 hP
  rw [hR] at hV
  clear hR hP hv
  cbv
  repeat' (first | (refine Br.mk (fun _ => ?_) (fun _ => ?_) <;> cbv) | (refine NilB.mk (fun _ => ?_) ?_ <;> cbv) | refine And.intro ?_ ?_ | exact True.intro)
  · subst hA; exact hV.g0
  · refine Leaf.gen fun σz hσz => ?_
    refine loopB hE hinl 6 [] [] [] (fun x : Bool × Int => [.b x.1, .i x.2]) (fun x => I0 x.1 x.2) (fun x => m0 x.1 x.2) (false, A.sub (A.nat (A.len a0)) 1) (by subst hA; exact hV.i0) ?_ ?_ <;> subst hσz
    · clear hE hinl hV; cbv; (try (repeat' (first | exact True.intro | rfl | assumption | apply And.intro)))
    · intro ⟨x0_0, x0_1⟩ hI0 K0 hK0
      cbv
      repeat' (first | (refine Br.mk (fun _ => ?_) (fun _ => ?_) <;> cbv) | (refine NilB.mk (fun _ => ?_) ?_ <;> cbv) | refine And.intro ?_ ?_ | exact True.intro)
      · rename_i hp2_0
        subst hA; exact hV.g2 _ _ hI0 (dt hp2_0)
      · rename_i hp3_0
        subst hA; exact hV.g3 _ _ hI0 (dt hp3_0)
      · rename_i hp4_0
        subst hA; exact hV.g4 _ _ hI0 (dt hp4_0)
      · rename_i hp5_0
        subst hA; exact hV.g5 _ _ hI0 (dt hp5_0)
      · rename_i hp6_0
        subst hA; exact hV.g6 _ _ hI0 (dt hp6_0)
      · rename_i hp7_0
        subst hA; exact hV.g7 _ _ hI0 (dt hp7_0)
      · rename_i hp8_0
        subst hA; exact hV.g8 _ _ hI0 (dt hp8_0)
      · rename_i hp9_0 hp9_1 hp9_2
        subst hA; exact hV.g9 _ _ hI0 (dt hp9_0) (df (nt hp9_1)) (dt (nf (nt hp9_2)))
      · rename_i hp10_0 hp10_1 hp10_2 hp10_3
        subst hA; exact hV.g10 _ _ hI0 (dt hp10_0) (df (nt hp10_1)) (df (nt (nf hp10_2))) (dt hp10_3)
      · rename_i hp11_0 hp11_1 hp11_2 hp11_3
        subst hA; exact hV.g11 _ _ hI0 (dt hp11_0) (df (nt hp11_1)) (df (nt (nf hp11_2))) (df hp11_3)
      · rename_i hp12_0 hp12_1 hp12_2 hp12_3
        refine hK0 (x0_0, A.sub x0_1 1) _ ?_ ?_ ?_
        · subst hA; exact (hV.n12 _ _ hI0 (dt hp12_0) (df (nt hp12_1)) (df (nt (nf hp12_2))) (df hp12_3)).1
        · subst hA; exact (hV.n12 _ _ hI0 (dt hp12_0) (df (nt hp12_1)) (df (nt (nf hp12_2))) (df hp12_3)).2
        · clear hE hinl hV hK0; cbv; (try (repeat' (first | exact True.intro | rfl | assumption | apply And.intro)))
      · rename_i hp13_0 hp13_1 hp13_2
        subst hA; exact hV.g13 _ _ hI0 (dt hp13_0) (dt (nf hp13_1)) (dt hp13_2)
      · rename_i hp14_0 hp14_1 hp14_2
        subst hA; exact hV.g14 _ _ hI0 (dt hp14_0) (dt (nf hp14_1)) (df hp14_2)
      · rename_i hp15_0 hp15_1 hp15_2
        refine hK0 (x0_0, A.sub x0_1 1) _ ?_ ?_ ?_
        · subst hA; exact (hV.n15 _ _ hI0 (dt hp15_0) (dt (nf hp15_1)) (df hp15_2)).1
        · subst hA; exact (hV.n15 _ _ hI0 (dt hp15_0) (dt (nf hp15_1)) (df hp15_2)).2
        · clear hE hinl hV hK0; cbv; (try (repeat' (first | exact True.intro | rfl | assumption | apply And.intro)))
      · rename_i hp16_0
        subst hA; exact hV.g16 _ _ hI0 (df hp16_0)
end HX

namespace HX
open Go Go.Proofs CX
set_option maxHeartbeats 4000000 in
set_option maxRecDepth 100000 in
theorem walk18 {ro A pre fn} (hE : EnvOk ⟨A, (cxE ro), ksF, sigL [(38, ⟨[(false, [.sl [.int .i64]])], [(false, [.bool])], false⟩)], pre, fn⟩) {P : List (List D) → Prop} {res : List (List D) → Nat → Nat → D}
    (hv : ∀ (a0 : Rows), ShR [.int .i64] a0 → P [[.l a0]] → ∃ (I0 : Int → Int → Prop) (m0 : Int → Int → Nat), V18 pre fn a0 (res [[.l a0]]) I0 m0) :
    PureC (cxE ro) 18 ⟨[(false, [.sl [.int .i64]])], [(false, [.int .i64])], false⟩ P res := by
  have hA := hE.A
  simp only [] at hA
  have hinl : ∀ f fn, inlL [(36, Try.f36), (50, Try.f50), (37, Try.f37)] f = some fn → (cxE ro).fn f = some fn ∧ (cxE ro).ext f = none := Inls.ok (by repeat (first | exact .nil | refine .cons rfl rfl ?_))
  refine PureC.of_vc hE hinl 6 (f := 18) (fn := Try.f18) ⟨rfl, rfl⟩ ?_
  intro a0 ha0 hP
  obtain ⟨R, hR⟩ : ∃ R, res [[.l a0]] = R := ⟨_, rfl⟩
  rw [hR]
  obtain ⟨I0, m0, hV⟩ := hv a0 ha0 hP
  rw [hR] at hV
  clear hR hP hv
  cbv
  repeat' (first | (refine Br.mk (fun _ => ?_) (fun _ => ?_) <;> cbv) | (refine NilB.mk (fun _ => ?_) ?_ <;> cbv) | refine And.intro ?_ ?_ | exact True.intro)
  · rename_i hp0_0
    subst hA; exact hV.g0 (dt hp0_0)
  · rename_i hp1_0
    refine Leaf.gen fun σz hσz => ?_
    refine loopB hE hinl 6 [] [] [] (fun x : Int × Int => [.i x.1, .i x.2]) (fun x => I0 x.1 x.2) (fun x => m0 x.1 x.2) (0, 0) (by subst hA; exact hV.i0 (df hp1_0)) ?_ ?_ <;> subst hσz
    · clear hE hinl hV; cbv; (try (repeat' (first | exact True.intro | rfl | assumption | apply And.intro)))
    · intro ⟨x0_0, x0_1⟩ hI0 K0 hK0
      cbv
      repeat' (first | (refine Br.mk (fun _ => ?_) (fun _ => ?_) <;> cbv) | (refine NilB.mk (fun _ => ?_) ?_ <;> cbv) | refine And.intro ?_ ?_ | exact True.intro)
      · rename_i hp2_0
        subst hA; exact hV.g2 _ _ hI0 (df hp1_0) (dt hp2_0)
      · rename_i hp3_0
        subst hA; exact hV.g3 _ _ hI0 (df hp1_0) (dt hp3_0)
      · rename_i hp4_0
        subst hA; exact hV.g4 _ _ hI0 (df hp1_0) (dt hp4_0)
      · rename_i hp5_0 hp5_1 hp5_2
        subst hA; exact hV.g5 _ _ hI0 (df hp1_0) (dt hp5_0) (dt hp5_1) (dt hp5_2)
      · rename_i hp6_0 hp6_1 hp6_2
        subst hA; exact hV.g6 _ _ hI0 (df hp1_0) (dt hp6_0) (dt hp6_1) (df hp6_2)
      · rename_i hp7_0 hp7_1 hp7_2 hp7_3
        subst hA; exact hV.g7 _ _ hI0 (df hp1_0) (dt hp7_0) (dt hp7_1) (df hp7_2) (nt hp7_3)
      · rename_i hp8_0 hp8_1 hp8_2 hp8_3
        subst hA; exact hV.g8 _ _ hI0 (df hp1_0) (dt hp8_0) (dt hp8_1) (df hp8_2) (nf hp8_3)
      · rename_i hp9_0 hp9_1 hp9_2 hp9_3
        subst hA; exact hV.g9 _ _ hI0 (df hp1_0) (dt hp9_0) (df hp9_1) (dt hp9_2) (dt hp9_3)
      · rename_i hp10_0 hp10_1 hp10_2 hp10_3
        subst hA; exact hV.g10 _ _ hI0 (df hp1_0) (dt hp10_0) (df hp10_1) (dt hp10_2) (df hp10_3)
      · rename_i hp11_0 hp11_1 hp11_2 hp11_3 hp11_4
        subst hA; exact hV.g11 _ _ hI0 (df hp1_0) (dt hp11_0) (df hp11_1) (dt hp11_2) (df hp11_3) (nt hp11_4)
      · rename_i hp12_0 hp12_1 hp12_2 hp12_3 hp12_4
        subst hA; exact hV.g12 _ _ hI0 (df hp1_0) (dt hp12_0) (df hp12_1) (dt hp12_2) (df hp12_3) (nf hp12_4)
      · rename_i hp13_0 hp13_1 hp13_2
        subst hA; exact hV.g13 _ _ hI0 (df hp1_0) (dt hp13_0) (df hp13_1) (df hp13_2)
      · rename_i hp14_0 hp14_1 hp14_2
        refine hK0 (x0_0, A.add x0_1 1) _ ?_ ?_ ?_
        · subst hA; exact (hV.n14 _ _ hI0 (df hp1_0) (dt hp14_0) (df hp14_1) (df hp14_2)).1
        · subst hA; exact (hV.n14 _ _ hI0 (df hp1_0) (dt hp14_0) (df hp14_1) (df hp14_2)).2
        · clear hE hinl hV hK0; cbv; (try (repeat' (first | exact True.intro | rfl | assumption | apply And.intro)))
      · rename_i hp15_0 hp15_1
        exfalso; subst hA; simp [Ar.std] at hp15_1
      · rename_i hp16_0 hp16_1
        subst hA; exact hV.g16 _ _ hI0 (df hp1_0) (df hp16_0)
      · rename_i hp17_0 hp17_1 hp17_2
        subst hA; exact hV.g17 _ _ hI0 (df hp1_0) (df hp17_0) (nt hp17_2)
      · rename_i hp18_0 hp18_1 hp18_2
        subst hA; exact hV.g18 _ _ hI0 (df hp1_0) (df hp18_0) (nf hp18_2)
end HX

namespace HX
open Go Go.Proofs CX
set_option maxHeartbeats 4000000 in
set_option maxRecDepth 100000 in
theorem walk7 {ro A pre fn} (hE : EnvOk ⟨A, (cxE ro), ksF, sigL [(18, ⟨[(false, [.sl [.int .i64]])], [(false, [.int .i64])], false⟩)], pre, fn⟩) {P : List (List D) → Prop} {res : List (List D) → Nat → Nat → D}
    (hv : ∀ (a0 : Rows) (a1 : Int), ShR [.int .i64] a0 → P [[.l a0], [.i a1]] → ∃ (I0 : Int → Int → Int → Int → Int → Prop) (m0 : Int → Int → Int → Int → Int → Nat), V7 pre fn a0 a1 (res [[.l a0], [.i a1]]) I0 m0) :
    PureC (cxE ro) 7 ⟨[(false, [.sl [.int .i64]]), (false, [.int .i64])], [(false, [.int .i64]), (false, [.int .i64])], false⟩ P res := by
  have hA := hE.A
  simp only [] at hA
  have hinl : ∀ f fn, inlL [(19, Try.f19), (39, Try.f39)] f = some fn → (cxE ro).fn f = some fn ∧ (cxE ro).ext f = none := Inls.ok (by repeat (first | exact .nil | refine .cons rfl rfl ?_))
  refine PureC.of_vc hE hinl 6 (f := 7) (fn := Try.f7) ⟨rfl, rfl⟩ ?_
  intro a0 ha0 a1 hP
  obtain ⟨R, hR⟩ : ∃ R, res [[.l a0], [.i a1]] = R := ⟨_, rfl⟩
  rw [hR]
  obtain ⟨I0, m0, hV⟩ := hv a0 a1 ha0 hP
  rw [hR] at hV
  clear hR hP hv
  cbv
  repeat' (first | (refine Br.mk (fun _ => ?_) (fun _ => ?_) <;> cbv) | (refine NilB.mk (fun _ => ?_) ?_ <;> cbv) | refine And.intro ?_ ?_ | exact True.intro)
  · rename_i hp0_0
    subst hA; exact hV.g0 (dt hp0_0)
  · rename_i hp1_0
    subst hA; exact hV.g1 (dt hp1_0)
  · rename_i hp2_0 hp2_1
    subst hA; exact hV.g2 (df hp2_0) (dt hp2_1)
  · rename_i hp3_0 hp3_1
    subst hA; exact hV.g3 (df hp3_0) (dt hp3_1)
  · rename_i hp4_0 hp4_1
    subst hA; exact hV.g4 (df hp4_0) (df hp4_1)
  · rename_i hp5_0 hp5_1 hp5_2
    subst hA; exact hV.g5 (df hp5_0) (df hp5_1) (df (nt hp5_2))
  · rename_i hp6_0 hp6_1 hp6_2
    subst hA; exact hV.g6 (df hp6_0) (df hp6_1) (df (nt hp6_2))
  · rename_i hp7_0 hp7_1 hp7_2
    refine Leaf.gen fun σz hσz => ?_
    refine loopB hE hinl 6 [] [] [(2, []), (3, []), (4, [])] (fun x : Int × Int × Int × Int × Int => [.i x.1, .i x.2.1, D.l [[.i x.2.2.1]], D.l [[.i x.2.2.2.1]], D.l [[.i x.2.2.2.2]]]) (fun x => I0 x.1 x.2.1 x.2.2.1 x.2.2.2.1 x.2.2.2.2) (fun x => m0 x.1 x.2.1 x.2.2.1 x.2.2.2.1 x.2.2.2.2) (0, 0, a1, 0, 0) (by subst hA; exact hV.i0 (df hp7_0) (df hp7_1) (dt (nf hp7_2))) ?_ ?_ <;> subst hσz
    · clear hE hinl hV; cbv; (try (repeat' (first | exact True.intro | rfl | assumption | apply And.intro)))
    · intro ⟨x0_0, x0_1, x0_2, x0_3, x0_4⟩ hI0 K0 hK0
      cbv
      repeat' (first | (refine Br.mk (fun _ => ?_) (fun _ => ?_) <;> cbv) | (refine NilB.mk (fun _ => ?_) ?_ <;> cbv) | refine And.intro ?_ ?_ | exact True.intro)
      · rename_i hp8_0
        subst hA; exact hV.g8 _ _ _ _ _ hI0 (df hp7_0) (df hp7_1) (dt (nf hp7_2)) (dt hp8_0)
      · rename_i hp9_0
        subst hA; exact hV.g9 _ _ _ _ _ hI0 (df hp7_0) (df hp7_1) (dt (nf hp7_2)) (dt hp9_0)
      · rename_i hp10_0
        subst hA; exact hV.g10 _ _ _ _ _ hI0 (df hp7_0) (df hp7_1) (dt (nf hp7_2)) (dt hp10_0)
      · rename_i hp11_0
        subst hA; exact hV.g11 _ _ _ _ _ hI0 (df hp7_0) (df hp7_1) (dt (nf hp7_2)) (dt hp11_0)
      · rename_i hp12_0
        subst hA; exact hV.g12 _ _ _ _ _ hI0 (df hp7_0) (df hp7_1) (dt (nf hp7_2)) (dt hp12_0)
      · rename_i hp13_0
        subst hA; exact hV.g13 _ _ _ _ _ hI0 (df hp7_0) (df hp7_1) (dt (nf hp7_2)) (dt hp13_0)
      · rename_i hp14_0
        subst hA; exact hV.g14 _ _ _ _ _ hI0 (df hp7_0) (df hp7_1) (dt (nf hp7_2)) (dt hp14_0)
      · rename_i hp15_0
        subst hA; exact hV.g15 _ _ _ _ _ hI0 (df hp7_0) (df hp7_1) (dt (nf hp7_2)) (dt hp15_0)
      · rename_i hp16_0
        subst hA; exact hV.g16 _ _ _ _ _ hI0 (df hp7_0) (df hp7_1) (dt (nf hp7_2)) (dt hp16_0)
      · rename_i hp17_0
        refine hK0 (A.max x0_0 (A.max 0 (A.sub (A.add (A.max 0 (A.sub x0_3 (A.mul x0_2 (A.sub (A.di (A.get a0 (A.toNat x0_1) 0)) x0_4)))) 1024) x0_2)), A.add x0_1 1, x0_2, A.add (A.max 0 (A.sub x0_3 (A.mul x0_2 (A.sub (A.di (A.get a0 (A.toNat x0_1) 0)) x0_4)))) 1024, A.di (A.get a0 (A.toNat x0_1) 0)) _ ?_ ?_ ?_
        · subst hA; exact (hV.n17 _ _ _ _ _ hI0 (df hp7_0) (df hp7_1) (dt (nf hp7_2)) (dt hp17_0)).1
        · subst hA; exact (hV.n17 _ _ _ _ _ hI0 (df hp7_0) (df hp7_1) (dt (nf hp7_2)) (dt hp17_0)).2
        · clear hE hinl hV hK0; cbv; (try (repeat' (first | exact True.intro | rfl | assumption | apply And.intro)))
      · rename_i hp18_0
        subst hA; exact hV.g18 _ _ _ _ _ hI0 (df hp7_0) (df hp7_1) (dt (nf hp7_2)) (df hp18_0)
      · rename_i hp19_0
        subst hA; exact hV.g19 _ _ _ _ _ hI0 (df hp7_0) (df hp7_1) (dt (nf hp7_2)) (df hp19_0)
end HX

namespace HX
open Go Go.Proofs CX
set_option maxHeartbeats 4000000 in
set_option maxRecDepth 100000 in
theorem walk10 {ro A pre fn} (hE : EnvOk ⟨A, (cxE ro), ksF, sigL [(20, ⟨[(true, [.int .i64, .int .i64])], [(false, [.int .i64])], false⟩), (7, ⟨[(false, [.sl [.int .i64]]), (false, [.int .i64])], [(false, [.int .i64]), (false, [.int .i64])], false⟩)], pre, fn⟩) {P : List (List D) → Prop} {res : List (List D) → Nat → Nat → D}
    (hv : ∀ (a0 : Rows) (a1_0 : Int) (a1_1 : Int), ShR [.int .i64] a0 → P [[.l a0], [.i a1_0, .i a1_1]] → V10 pre fn a0 a1_0 a1_1 (res [[.l a0], [.i a1_0, .i a1_1]]) ) :
    PureC (cxE ro) 10 ⟨[(false, [.sl [.int .i64]]), (true, [.int .i64, .int .i64])], [(false, [.bool]), (false, [.int .i64])], false⟩ P res := by
  have hA := hE.A
  simp only [] at hA
  have hinl : ∀ f fn, inlL [] f = some fn → (cxE ro).fn f = some fn ∧ (cxE ro).ext f = none := Inls.ok (by repeat (first | exact .nil | refine .cons rfl rfl ?_))
  refine PureC.of_vc hE hinl 6 (f := 10) (fn := Try.f10) ⟨rfl, rfl⟩ ?_
  intro a0 ha0 a1_0 a1_1 hP
  obtain ⟨R, hR⟩ : ∃ R, res [[.l a0], [.i a1_0, .i a1_1]] = R := ⟨_, rfl⟩
  rw [hR]
  have hV := hv a0 a1_0 a1_1 ha0 hP
  rw [hR] at hV
  clear hR hP hv
  cbv
  repeat' (first | (refine Br.mk (fun _ => ?_) (fun _ => ?_) <;> cbv) | (refine NilB.mk (fun _ => ?_) ?_ <;> cbv) | refine And.intro ?_ ?_ | exact True.intro)
  · subst hA; exact hV.g0
  · rename_i hp1_0
    subst hA; exact hV.g1 (df (nt hp1_0))
  · rename_i hp2_0
    subst hA; exact hV.g2 (df (nt hp2_0))
  · rename_i hp3_0
    subst hA; exact hV.g3 (dt (nf hp3_0))
  · rename_i hp4_0 hp4_1
    subst hA; exact hV.g4 (dt (nf hp4_0)) (dt hp4_1)
  · rename_i hp5_0 hp5_1
    subst hA; exact hV.g5 (dt (nf hp5_0)) (dt hp5_1)
  · rename_i hp6_0 hp6_1
    subst hA; exact hV.g6 (dt (nf hp6_0)) (df hp6_1)
  · rename_i hp7_0 hp7_1
    subst hA; exact hV.g7 (dt (nf hp7_0)) (df hp7_1)
end HX

namespace HX
open Go Go.Proofs CX
abbrev tru : List (List D) → Prop := fun _ => True
def r6 : List (List D) → Nat → Nat → D
  | [[.l l]], _, _ => .l (risP l l.length)
  | _, _, _ => .nil
def p6 : List (List D) → Prop
  | [[.l l]] => u8L l ∧ l.length ≤ 60
  | _ => False
noncomputable def r8 : List (List D) → Nat → Nat → D
  | [[.l l], [.i b, .i r]], _, _ => .b (kps l b r)
  | _, _, _ => .nil
def p8 : List (List D) → Prop
  | [[.l l], [.i b, .i r]] => okK l b r
  | _ => False
def r9 : List (List D) → Nat → Nat → D
  | [[.i a], [.i _]], _, 0 => .i a
  | [[.i _], [.i b]], _, _ => .i b
  | _, _, _ => .nil
def r14 : List (List D) → Nat → Nat → D
  | [[.i a, .i b]], _, _ => .i (crE a b)
  | _, _, _ => .nil
noncomputable def r21 : List (List D) → Nat → Nat → D
  | [[.l l]], _, _ => .i (allE l)
  | _, _, _ => .nil
open Classical in
noncomputable def r38 : List (List D) → Nat → Nat → D
  | [[.l l]], _, _ => .b (decide (srt l))
  | _, _, _ => .nil
noncomputable def r18 : List (List D) → Nat → Nat → D
  | [[.l l]], _, _ => .i (tmE l)
  | _, _, _ => .nil
noncomputable def r7 : List (List D) → Nat → Nat → D
  | [[.l l], [.i r]], 0, _ => .i (buB l r)
  | [[.l l], [.i r]], _, _ => .i (buE l r)
  | _, _, _ => .nil
noncomputable def r10 : List (List D) → Nat → Nat → D
  | [[.l l], [.i b, .i r]], 0, _ => .b (kpB l b r)
  | [[.l l], [.i b, .i r]], _, _ => .i (kpE l b r)
  | _, _, _ => .nil
noncomputable def c6 : Ctr := ⟨6, ⟨[(false, [.sl [.int .u8]])], [(false, [.sl [.int .i64]])], false⟩, p6, r6⟩
noncomputable def c8 : Ctr := ⟨8, ⟨[(false, [.sl [.int .i64]]), (true, [.int .i64, .int .i64])], [(false, [.bool])], false⟩, p8, r8⟩
noncomputable def c9 : Ctr := ⟨9, ⟨[(false, [.int .i64]), (false, [.int .i64])], [(true, [.int .i64, .int .i64])], false⟩, tru, r9⟩
noncomputable def c21 : Ctr := ⟨21, ⟨[(false, [.sl [.int .i64, .int .i64]])], [(false, [.int .i64])], false⟩, tru, r21⟩
noncomputable def c20 : Ctr := ⟨20, ⟨[(true, [.int .i64, .int .i64])], [(false, [.int .i64])], false⟩, tru, r14⟩
noncomputable def c38 : Ctr := ⟨38, ⟨[(false, [.sl [.int .i64]])], [(false, [.bool])], false⟩, tru, r38⟩
noncomputable def c18 : Ctr := ⟨18, ⟨[(false, [.sl [.int .i64]])], [(false, [.int .i64])], false⟩, tru, r18⟩
noncomputable def c7 : Ctr := ⟨7, ⟨[(false, [.sl [.int .i64]]), (false, [.int .i64])], [(false, [.int .i64]), (false, [.int .i64])], false⟩, tru, r7⟩
noncomputable def c10 : Ctr := ⟨10, ⟨[(false, [.sl [.int .i64]]), (true, [.int .i64, .int .i64])], [(false, [.bool]), (false, [.int .i64])], false⟩, tru, r10⟩
noncomputable def c5 : Ctr := ⟨5, ⟨[], [(false, [.bool])], false⟩, tru, (fun _ _ _ => .b true)⟩
section
variable (ro : Addr → Option V)
theorem k6 : PureC (cxE ro) c6.f c6.sg c6.pre c6.res := walk6 (envL (l := []) .nil) fun _ _ h => ⟨_, _, law6 h.1 h.2 rfl⟩
theorem k8 : PureC (cxE ro) c8.f c8.sg c8.pre c8.res := walk8 (envL (l := []) .nil) fun _ _ _ _ h => ⟨_, _, _, _, law8 h rfl⟩
theorem k9 : PureC (cxE ro) c9.f c9.sg c9.pre c9.res := walk9 (envL (l := []) .nil) fun _ _ _ => law9 rfl rfl
theorem k21 : PureC (cxE ro) c21.f c21.sg c21.pre c21.res := walk21 (envL (l := []) .nil) fun _ ha _ => ⟨_, _, law21 ha.2 rfl⟩
theorem k20 : PureC (cxE ro) c20.f c20.sg c20.pre c20.res := walk20 (envL (l := [c21]) (.cons (k21 ro) .nil)) fun _ _ _ => law20 (fun _ => trivial) (fun _ => rfl) rfl
theorem k38 : PureC (cxE ro) c38.f c38.sg c38.pre c38.res := walk38 (envL (l := []) .nil) fun _ ha _ => ⟨_, _, law38 ha.2 rfl⟩
theorem k18 : PureC (cxE ro) c18.f c18.sg c18.pre c18.res := walk18 (envL (l := [c38]) (.cons (k38 ro) .nil)) fun _ ha _ => ⟨_, _, law18 (fun _ => trivial) (fun _ => rfl) ha.2 rfl⟩
theorem k7 : PureC (cxE ro) c7.f c7.sg c7.pre c7.res := walk7 (envL (l := [c18]) (.cons (k18 ro) .nil)) fun _ _ _ _ => ⟨_, _, law7 (fun _ => trivial) (fun _ => rfl) rfl rfl⟩
theorem k10 : PureC (cxE ro) c10.f c10.sg c10.pre c10.res := walk10 (envL (l := [c20, c7]) (.cons (k20 ro) (.cons (k7 ro) .nil))) fun _ _ _ _ _ => law10 (fun _ => trivial) (fun _ _ => rfl) (fun _ => trivial) (fun _ _ => ⟨rfl, rfl⟩) rfl rfl
theorem k5 : PureC (cxE ro) c5.f c5.sg c5.pre c5.res := works_pure
end
noncomputable def l3 : List Ctr := [c5, c6, c7, c8, c9, c10]
theorem k_l3 (ro : Addr → Option V) : Ctrs (cxE ro) l3 := (.cons (k5 ro) (.cons (k6 ro) (.cons (k7 ro) (.cons (k8 ro) (.cons (k9 ro) (.cons (k10 ro) .nil))))))
end HX

namespace HX
open Go Go.Proofs CX
theorem rng_u8 {row : List D} (h : RngL [.int .u8] row) : 0 ≤ wI row ∧ wI row ≤ 255 := by
  cases row with
  | nil => simp [wI, D.int]
  | cons d r => exact h.1
theorem law3' {a0 : Rows} {a1 : Int} (h : RngAll [(false, [.sl [.int .u8]]), (false, [.int .u16])] [[.l a0], [.i a1]]) : V3 (preOf l3) (resOf l3) a0 a1 (fun _ _ => .b true) := by
  obtain ⟨⟨h0, _⟩, ⟨h1, _⟩, _⟩ := h
  exact law3 trivial rfl (fun _ h1 h2 => ⟨h1, h2⟩) (fun _ => rfl) (fun _ => trivial) (fun _ _ => ⟨rfl, rfl⟩) (fun _ _ _ h => h) (fun _ _ _ => rfl) (fun _ => trivial) (fun _ _ => ⟨rfl, rfl⟩) (fun _ => trivial) (fun _ _ _ => ⟨rfl, rfl⟩) (fun r hr => rng_u8 (h0 r hr)) h1.1 h1.2 rfl
end HX

namespace Go.Proofs.Ytlijpmeeldoofaa.calcLeast
open Go.ChangeShapes Go.WideShapes Go.ChangeAt Go.RowKit HX

def ps : List (Bool × List Kd) := [(false, [.sl [.int .u8]]), (false, [.int .u16])]
theorem law (ro : Addr → Option CX.V) : PureC0 (cxE ro) 3 ⟨ps, [(false, [.bool])], false⟩ (RngAll ps) trueRes := walk3 (envL (l := l3) (k_l3 ro)) fun _ _ _ h => law3' h

theorem lenN {α β : Type} {F : List α → β} {G : List α → β} (h : ∀ a b, F [a, b] = G [a, b]) : ∀ ds : List α, ds.length = 2 → F ds = G ds
  | [a, b], _ => h a b

set_option maxRecDepth 100000 in
set_option maxHeartbeats 400000 in
theorem lifted (os : Os) (started : os.Started) (H : Type) (enc : TypeId × Value → H) :
    ReturnsInHanded {} Try.checked os 3 .any (Rows.calcLeastSpec.pre6 enc Try.prog Try.f3 Rows.calcLeastRow.domain false) (Rows.calcLeastSpec.post enc Try.prog Try.f3 false true false false) := by
  refine returnsInHanded_of_change (C := Try.checked) own started (by kernel_rfl) Try.func3
    (ChangeSpec.witness6 (enc := enc) (C := Try.checked) false ⟨#[], #[.slice none 0 0, .int .u16 0], []⟩ 8 (by kernel_rfl) (by kernel_rfl) (by kernel_rfl) (by kernel_rfl)) ?_
  intro W base args ds gs before hval hW _ _
  exact said (f := Try.f3) (s := Rows.calcLeastSpec) (n := 8) (tb := 4) cxE_ok law (by kernel_rfl) laid (by kernel_rfl) rfl Try.underlying4
    (lenN (F := Rows.calcLeastSpec.fn H) (G := fun ds => ⟨[.lit (.bool true)], ds, []⟩) fun _ _ => rfl) rfl W base args ds gs before hval hW

theorem holds : Rows.CalcLeastSaid :=
  OpenClaim.holds_of_wide 3 Try.f3 rfl rfl rfl rfl rfl rfl rfl ⟨rfl, rfl, rfl, rfl, rfl⟩ rfl rfl rfl rfl rfl (by kernel_rfl) Try.func3 (by kernel_rfl)
    (of_decide_eq_true (by kernel_rfl)) (by unfold Func.isWrapper; first | (rw [if_pos (by decide +kernel)]; kernel_rfl) | (rw [if_neg (by decide +kernel)]; exact ⟨rfl, rfl⟩))
    (fun os started H enc _ => lifted os started H enc)
end Go.Proofs.Ytlijpmeeldoofaa.calcLeast
