/-
  Texts of the executors: W17, W18, W49, W50, W53, W55, W54, W88, W56, W15, W20, W16, W19.
-/
import Derived.Test.YtcpndododgchbaaMeshRoutes8
set_option linter.all false
namespace HX
open Go Go.Proofs CX
set_option maxHeartbeats 4000000 in
set_option maxRecDepth 100000 in
theorem walk17 {ro A pre fn} (hE : EnvOk ⟨A, (cxE ro), ksF, sigL [], pre, fn⟩) {P : List (List D) → Prop} {res : List (List D) → Nat → Nat → D}
    (hv : ∀ (a0_0 : Int) (a0_1 : Int) (a0_2 : Int), P [[.i a0_0, .i a0_1, .i a0_2]] → V17 a0_0 a0_1 a0_2 (res [[.i a0_0, .i a0_1, .i a0_2]]) ) :
    PureC (cxE ro) 17 ⟨[(true, [.int .i64, .int .i64, .int .i64])], [(false, [.int .i64])], false⟩ P res := by
  have hA := hE.A
  simp only [] at hA
  have hinl : ∀ f fn, inlL [] f = some fn → (cxE ro).fn f = some fn ∧ (cxE ro).ext f = none := Inls.ok (by repeat (first | exact .nil | refine .cons rfl rfl ?_))
  refine PureC.of_vc hE hinl 6 (f := 17) (fn := Try.f17) ⟨rfl, rfl⟩ ?_
  intro a0_0 a0_1 a0_2 hP
  obtain ⟨R, hR⟩ : ∃ R, res [[.i a0_0, .i a0_1, .i a0_2]] = R := ⟨_, rfl⟩
  rw [hR]
  have hV := hv a0_0 a0_1 a0_2  hP
  rw [hR] at hV
  clear hR hP hv
  cbv
  repeat' (first | (refine Br.mk (fun _ => ?_) (fun _ => ?_) <;> cbv) | (refine NilB.mk (fun _ => ?_) ?_ <;> cbv) | refine And.intro ?_ ?_ | exact True.intro)
  · rename_i hp0_0
    subst hA; exact hV.g0 (dt hp0_0)
  · rename_i hp1_0 hp1_1
    subst hA; exact hV.g1 (df hp1_0) (dt hp1_1)
  · rename_i hp2_0 hp2_1 hp2_2
    subst hA; exact hV.g2 (df hp2_0) (df hp2_1) (dt hp2_2)
  · rename_i hp3_0 hp3_1 hp3_2
    subst hA; exact hV.g3 (df hp3_0) (df hp3_1) (df hp3_2)
end HX

namespace HX
open Go Go.Proofs CX
set_option maxHeartbeats 4000000 in
set_option maxRecDepth 100000 in
theorem walk18 {ro A pre fn} (hE : EnvOk ⟨A, (cxE ro), ksF, sigL [], pre, fn⟩) {P : List (List D) → Prop} {res : List (List D) → Nat → Nat → D}
    (hv : ∀ (a0_0 : Int) (a0_1 : Int) (a0_2 : Int), P [[.i a0_0, .i a0_1, .i a0_2]] → V18 a0_0 a0_1 a0_2 (res [[.i a0_0, .i a0_1, .i a0_2]]) ) :
    PureC (cxE ro) 18 ⟨[(true, [.int .i64, .int .i64, .int .i64])], [(false, [.int .i64])], false⟩ P res := by
  have hA := hE.A
  simp only [] at hA
  have hinl : ∀ f fn, inlL [] f = some fn → (cxE ro).fn f = some fn ∧ (cxE ro).ext f = none := Inls.ok (by repeat (first | exact .nil | refine .cons rfl rfl ?_))
  refine PureC.of_vc hE hinl 6 (f := 18) (fn := Try.f18) ⟨rfl, rfl⟩ ?_
  intro a0_0 a0_1 a0_2 hP
  obtain ⟨R, hR⟩ : ∃ R, res [[.i a0_0, .i a0_1, .i a0_2]] = R := ⟨_, rfl⟩
  rw [hR]
  have hV := hv a0_0 a0_1 a0_2  hP
  rw [hR] at hV
  clear hR hP hv
  cbv
  repeat' (first | (refine Br.mk (fun _ => ?_) (fun _ => ?_) <;> cbv) | (refine NilB.mk (fun _ => ?_) ?_ <;> cbv) | refine And.intro ?_ ?_ | exact True.intro)
  · rename_i hp0_0
    subst hA; exact hV.g0 (dt hp0_0)
  · rename_i hp1_0 hp1_1
    subst hA; exact hV.g1 (df hp1_0) (dt hp1_1)
  · rename_i hp2_0 hp2_1 hp2_2
    subst hA; exact hV.g2 (df hp2_0) (df hp2_1) (dt hp2_2)
  · rename_i hp3_0 hp3_1 hp3_2 hp3_3
    subst hA; exact hV.g3 (df hp3_0) (df hp3_1) (df hp3_2) (dt hp3_3)
  · rename_i hp4_0 hp4_1 hp4_2 hp4_3 hp4_4
    subst hA; exact hV.g4 (df hp4_0) (df hp4_1) (df hp4_2) (df hp4_3) (dt hp4_4)
  · rename_i hp5_0 hp5_1 hp5_2 hp5_3 hp5_4 hp5_5
    subst hA; exact hV.g5 (df hp5_0) (df hp5_1) (df hp5_2) (df hp5_3) (df hp5_4) (dt hp5_5)
  · rename_i hp6_0 hp6_1 hp6_2 hp6_3 hp6_4 hp6_5
    subst hA; exact hV.g6 (df hp6_0) (df hp6_1) (df hp6_2) (df hp6_3) (df hp6_4) (df hp6_5)
end HX

namespace HX
open Go Go.Proofs CX
set_option maxHeartbeats 4000000 in
set_option maxRecDepth 100000 in
theorem walk49 {ro A pre fn} (hE : EnvOk ⟨A, (cxE ro), ksF, sigL [(17, ⟨[(true, [.int .i64, .int .i64, .int .i64])], [(false, [.int .i64])], false⟩)], pre, fn⟩) {P : List (List D) → Prop} {res : List (List D) → Nat → Nat → D}
    (hv : ∀ (a0_0 : Int) (a0_1 : Int) (a0_2 : Int) (a1 : Rows), ShR [.int .i64] a1 → P [[.i a0_0, .i a0_1, .i a0_2], [.l a1]] → ∃ (I0 : Int → Int → Prop) (m0 : Int → Int → Nat), V49 pre fn a0_0 a0_1 a0_2 a1 (res [[.i a0_0, .i a0_1, .i a0_2], [.l a1]]) I0 m0) :
    PureC (cxE ro) 49 ⟨[(true, [.int .i64, .int .i64, .int .i64]), (false, [.sl [.int .i64]])], [(false, [.int .i64])], false⟩ P res := by
  have hA := hE.A
  simp only [] at hA
  have hinl : ∀ f fn, inlL [] f = some fn → (cxE ro).fn f = some fn ∧ (cxE ro).ext f = none := Inls.ok (by repeat (first | exact .nil | refine .cons rfl rfl ?_))
  refine PureC.of_vc hE hinl 6 (f := 49) (fn := Try.f49) ⟨rfl, rfl⟩ ?_
  intro a0_0 a0_1 a0_2 a1 ha1 hP
  obtain ⟨R, hR⟩ : ∃ R, res [[.i a0_0, .i a0_1, .i a0_2], [.l a1]] = R := ⟨_, rfl⟩
  rw [hR]
  obtain ⟨I0, m0, hV⟩ := hv a0_0 a0_1 a0_2 a1 ha1 hP
  rw [hR] at hV
  clear hR hP hv
  cbv
  repeat' (first | (refine Br.mk (fun _ => ?_) (fun _ => ?_) <;> cbv) | (refine NilB.mk (fun _ => ?_) ?_ <;> cbv) | refine And.intro ?_ ?_ | exact True.intro)
  · subst hA; exact hV.g0
  · rename_i hp1_0
    subst hA; exact hV.g1 (df (nt hp1_0))
  · rename_i hp2_0
    refine Leaf.gen fun σz hσz => ?_
    refine loopB hE hinl 6 [] [] [] (fun x : Int × Int => [.i x.1, .i x.2]) (fun x => I0 x.1 x.2) (fun x => m0 x.1 x.2) (0, 0) (by subst hA; exact hV.i0 (dt (nf hp2_0))) ?_ ?_ <;> subst hσz
    · clear hE hinl hV; cbv; (try (repeat' (first | exact True.intro | rfl | assumption | apply And.intro)))
    · intro ⟨x0_0, x0_1⟩ hI0 K0 hK0
      cbv
      repeat' (first | (refine Br.mk (fun _ => ?_) (fun _ => ?_) <;> cbv) | (refine NilB.mk (fun _ => ?_) ?_ <;> cbv) | refine And.intro ?_ ?_ | exact True.intro)
      · rename_i hp3_0
        subst hA; exact hV.g3 _ _ hI0 (dt (nf hp2_0)) (dt hp3_0)
      · rename_i hp4_0
        subst hA; exact hV.g4 _ _ hI0 (dt (nf hp2_0)) (dt hp4_0)
      · rename_i hp5_0
        subst hA; exact hV.g5 _ _ hI0 (dt (nf hp2_0)) (dt hp5_0)
      · rename_i hp6_0 hp6_1
        subst hA; exact hV.g6 _ _ hI0 (dt (nf hp2_0)) (dt hp6_0) (dt hp6_1)
      · rename_i hp7_0 hp7_1
        subst hA; exact hV.g7 _ _ hI0 (dt (nf hp2_0)) (dt hp7_0) (df hp7_1)
      · rename_i hp8_0 hp8_1 hp8_2
        subst hA; exact hV.g8 _ _ hI0 (dt (nf hp2_0)) (dt hp8_0) (df hp8_1) (dt hp8_2)
      · rename_i hp9_0 hp9_1 hp9_2
        subst hA; exact hV.g9 _ _ hI0 (dt (nf hp2_0)) (dt hp9_0) (df hp9_1) (df hp9_2)
      · rename_i hp10_0 hp10_1 hp10_2
        refine hK0 (x0_0, A.add x0_1 1) _ ?_ ?_ ?_
        · subst hA; exact (hV.n10 _ _ hI0 (dt (nf hp2_0)) (dt hp10_0) (df hp10_1) (df hp10_2)).1
        · subst hA; exact (hV.n10 _ _ hI0 (dt (nf hp2_0)) (dt hp10_0) (df hp10_1) (df hp10_2)).2
        · clear hE hinl hV hK0; cbv; (try (repeat' (first | exact True.intro | rfl | assumption | apply And.intro)))
      · rename_i hp11_0
        subst hA; exact hV.g11 _ _ hI0 (dt (nf hp2_0)) (df hp11_0)
end HX

namespace HX
open Go Go.Proofs CX
set_option maxHeartbeats 4000000 in
set_option maxRecDepth 100000 in
theorem walk50 {ro A pre fn} (hE : EnvOk ⟨A, (cxE ro), ksF, sigL [], pre, fn⟩) {P : List (List D) → Prop} {res : List (List D) → Nat → Nat → D}
    (hv : ∀ (a0_0 : Int) (a0_1 : Int) (a0_2 : Int) (a1 : Int), P [[.i a0_0, .i a0_1, .i a0_2], [.i a1]] → V50 a0_0 a0_1 a0_2 a1 (res [[.i a0_0, .i a0_1, .i a0_2], [.i a1]]) ) :
    PureC (cxE ro) 50 ⟨[(true, [.int .i64, .int .i64, .int .i64]), (false, [.int .i64])], [(true, [.int .i64, .int .i64])], false⟩ P res := by
  have hA := hE.A
  simp only [] at hA
  have hinl : ∀ f fn, inlL [] f = some fn → (cxE ro).fn f = some fn ∧ (cxE ro).ext f = none := Inls.ok (by repeat (first | exact .nil | refine .cons rfl rfl ?_))
  refine PureC.of_vc hE hinl 6 (f := 50) (fn := Try.f50) ⟨rfl, rfl⟩ ?_
  intro a0_0 a0_1 a0_2 a1 hP
  obtain ⟨R, hR⟩ : ∃ R, res [[.i a0_0, .i a0_1, .i a0_2], [.i a1]] = R := ⟨_, rfl⟩
  rw [hR]
  have hV := hv a0_0 a0_1 a0_2 a1  hP
  rw [hR] at hV
  clear hR hP hv
  cbv
  repeat' (first | (refine Br.mk (fun _ => ?_) (fun _ => ?_) <;> cbv) | (refine NilB.mk (fun _ => ?_) ?_ <;> cbv) | refine And.intro ?_ ?_ | exact True.intro)
  · subst hA; exact hV.g0
  · subst hA; exact hV.g0
  · subst hA; exact hV.g2
  · subst hA; exact hV.g3
  · subst hA; exact hV.g4
end HX

namespace HX
open Go Go.Proofs CX
set_option maxHeartbeats 4000000 in
set_option maxRecDepth 100000 in
theorem walk53 {ro A pre fn} (hE : EnvOk ⟨A, (cxE ro), ksF, sigL [(18, ⟨[(true, [.int .i64, .int .i64, .int .i64])], [(false, [.int .i64])], false⟩)], pre, fn⟩) {P : List (List D) → Prop} {res : List (List D) → Nat → Nat → D}
    (hv : ∀ (a0_0 : Int) (a0_1 : Int) (a0_2 : Int) (a1 : Int) (a2 : Int), P [[.i a0_0, .i a0_1, .i a0_2], [.i a1], [.i a2]] → V53 pre fn a0_0 a0_1 a0_2 a1 a2 (res [[.i a0_0, .i a0_1, .i a0_2], [.i a1], [.i a2]]) ) :
    PureC (cxE ro) 53 ⟨[(true, [.int .i64, .int .i64, .int .i64]), (false, [.int .i64]), (false, [.int .i64])], [(false, [.int .i64])], false⟩ P res := by
  have hA := hE.A
  simp only [] at hA
  have hinl : ∀ f fn, inlL [(57, Try.f57)] f = some fn → (cxE ro).fn f = some fn ∧ (cxE ro).ext f = none := Inls.ok (by repeat (first | exact .nil | refine .cons rfl rfl ?_))
  refine PureC.of_vc hE hinl 6 (f := 53) (fn := Try.f53) ⟨rfl, rfl⟩ ?_
  intro a0_0 a0_1 a0_2 a1 a2 hP
  obtain ⟨R, hR⟩ : ∃ R, res [[.i a0_0, .i a0_1, .i a0_2], [.i a1], [.i a2]] = R := ⟨_, rfl⟩
  rw [hR]
  have hV := hv a0_0 a0_1 a0_2 a1 a2  hP
  rw [hR] at hV
  clear hR hP hv
  cbv
  repeat' (first | (refine Br.mk (fun _ => ?_) (fun _ => ?_) <;> cbv) | (refine NilB.mk (fun _ => ?_) ?_ <;> cbv) | refine And.intro ?_ ?_ | exact True.intro)
  · subst hA; exact hV.g0
  · rename_i hp1_0
    subst hA; exact hV.g1 (df (nt hp1_0))
  · rename_i hp2_0 hp2_1
    subst hA; exact hV.g2 (dt (nf hp2_0)) (dt hp2_1)
  · rename_i hp3_0 hp3_1 hp3_2
    subst hA; exact hV.g3 (dt (nf hp3_0)) (dt hp3_1) (df (nt hp3_2))
  · rename_i hp4_0 hp4_1 hp4_2 hp4_3
    subst hA; exact hV.g4 (dt (nf hp4_0)) (dt hp4_1) (dt (nf hp4_2)) (dt hp4_3)
  · rename_i hp5_0 hp5_1 hp5_2 hp5_3 hp5_4
    subst hA; exact hV.g5 (dt (nf hp5_0)) (dt hp5_1) (dt (nf hp5_2)) (dt hp5_3) (df (nt hp5_4))
  · rename_i hp6_0 hp6_1 hp6_2 hp6_3 hp6_4
    subst hA; exact hV.g6 (dt (nf hp6_0)) (dt hp6_1) (dt (nf hp6_2)) (dt hp6_3) (dt (nf hp6_4))
  · rename_i hp7_0 hp7_1 hp7_2 hp7_3
    subst hA; exact hV.g7 (dt (nf hp7_0)) (dt hp7_1) (dt (nf hp7_2)) (df hp7_3)
  · rename_i hp8_0 hp8_1
    subst hA; exact hV.g8 (dt (nf hp8_0)) (df hp8_1)
end HX

namespace HX
open Go Go.Proofs CX
set_option maxHeartbeats 4000000 in
set_option maxRecDepth 100000 in
theorem walk55 {ro A pre fn} (hE : EnvOk ⟨A, (cxE ro), ksF, sigL [], pre, fn⟩) {P : List (List D) → Prop} {res : List (List D) → Nat → Nat → D}
    (hv : ∀ (a0_0 : Int) (a0_1 : Int) (a0_2 : Int) (a1 : Int) (a2 : Int), P [[.i a0_0, .i a0_1, .i a0_2], [.i a1], [.i a2]] → V55 a0_0 a0_1 a0_2 a1 a2 (res [[.i a0_0, .i a0_1, .i a0_2], [.i a1], [.i a2]]) ) :
    PureC (cxE ro) 55 ⟨[(true, [.int .i64, .int .i64, .int .i64]), (false, [.int .i64]), (false, [.int .i64])], [(false, [.int .i64])], false⟩ P res := by
  have hA := hE.A
  simp only [] at hA
  have hinl : ∀ f fn, inlL [] f = some fn → (cxE ro).fn f = some fn ∧ (cxE ro).ext f = none := Inls.ok (by repeat (first | exact .nil | refine .cons rfl rfl ?_))
  refine PureC.of_vc hE hinl 6 (f := 55) (fn := Try.f55) ⟨rfl, rfl⟩ ?_
  intro a0_0 a0_1 a0_2 a1 a2 hP
  obtain ⟨R, hR⟩ : ∃ R, res [[.i a0_0, .i a0_1, .i a0_2], [.i a1], [.i a2]] = R := ⟨_, rfl⟩
  rw [hR]
  have hV := hv a0_0 a0_1 a0_2 a1 a2  hP
  rw [hR] at hV
  clear hR hP hv
  cbv
  repeat' (first | (refine Br.mk (fun _ => ?_) (fun _ => ?_) <;> cbv) | (refine NilB.mk (fun _ => ?_) ?_ <;> cbv) | refine And.intro ?_ ?_ | exact True.intro)
  · subst hA; exact hV.g0
  · subst hA; exact hV.g0
  · subst hA; exact hV.g2
  · subst hA; exact hV.g0
  · subst hA; exact hV.g0
  · subst hA; exact hV.g5
  · rename_i hp6_0
    subst hA; exact hV.g6 (dt hp6_0)
  · rename_i hp7_0 hp7_1
    subst hA; exact hV.g7 (df hp7_0) (dt hp7_1)
  · rename_i hp8_0 hp8_1 hp8_2
    subst hA; exact hV.g8 (df hp8_0) (df hp8_1) (dt hp8_2)
  · rename_i hp9_0 hp9_1 hp9_2 hp9_3
    subst hA; exact hV.g9 (df hp9_0) (df hp9_1) (df hp9_2) (dt hp9_3)
  · rename_i hp10_0 hp10_1 hp10_2 hp10_3
    subst hA; exact hV.g10 (df hp10_0) (df hp10_1) (df hp10_2) (df hp10_3)
end HX

namespace HX
open Go Go.Proofs CX
set_option maxHeartbeats 4000000 in
set_option maxRecDepth 100000 in
theorem walk54 {ro A pre fn} (hE : EnvOk ⟨A, (cxE ro), ksF, sigL [], pre, fn⟩) {P : List (List D) → Prop} {res : List (List D) → Nat → Nat → D}
    (hv : ∀ (a0_0 : Int) (a0_1 : Int) (a0_2 : Int) (a1 : Int) (a2 : Int), P [[.i a0_0, .i a0_1, .i a0_2], [.i a1], [.i a2]] → V54 a0_0 a0_1 a0_2 a1 a2 (res [[.i a0_0, .i a0_1, .i a0_2], [.i a1], [.i a2]]) ) :
    PureC (cxE ro) 54 ⟨[(true, [.int .i64, .int .i64, .int .i64]), (false, [.int .i64]), (false, [.int .i64])], [(false, [.int .i64])], false⟩ P res := by
  have hA := hE.A
  simp only [] at hA
  have hinl : ∀ f fn, inlL [] f = some fn → (cxE ro).fn f = some fn ∧ (cxE ro).ext f = none := Inls.ok (by repeat (first | exact .nil | refine .cons rfl rfl ?_))
  refine PureC.of_vc hE hinl 6 (f := 54) (fn := Try.f54) ⟨rfl, rfl⟩ ?_
  intro a0_0 a0_1 a0_2 a1 a2 hP
  obtain ⟨R, hR⟩ : ∃ R, res [[.i a0_0, .i a0_1, .i a0_2], [.i a1], [.i a2]] = R := ⟨_, rfl⟩
  rw [hR]
  have hV := hv a0_0 a0_1 a0_2 a1 a2  hP
  rw [hR] at hV
  clear hR hP hv
  cbv
  repeat' (first | (refine Br.mk (fun _ => ?_) (fun _ => ?_) <;> cbv) | (refine NilB.mk (fun _ => ?_) ?_ <;> cbv) | refine And.intro ?_ ?_ | exact True.intro)
  · subst hA; exact hV.g0
  · subst hA; exact hV.g0
  · subst hA; exact hV.g2
  · rename_i hp3_0
    subst hA; exact hV.g3 (dt hp3_0)
  · rename_i hp4_0 hp4_1
    subst hA; exact hV.g4 (dt hp4_0) (dt hp4_1)
  · rename_i hp5_0 hp5_1
    subst hA; exact hV.g5 (dt hp5_0) (dt hp5_1)
  · rename_i hp6_0 hp6_1 hp6_2
    subst hA; exact hV.g6 (dt hp6_0) (df hp6_1) (dt hp6_2)
  · rename_i hp7_0 hp7_1 hp7_2 hp7_3
    subst hA; exact hV.g7 (dt hp7_0) (df hp7_1) (dt hp7_2) (dt hp7_3)
  · rename_i hp8_0 hp8_1 hp8_2 hp8_3
    subst hA; exact hV.g8 (dt hp8_0) (df hp8_1) (dt hp8_2) (dt hp8_3)
  · rename_i hp9_0 hp9_1 hp9_2 hp9_3 hp9_4 hp9_5
    subst hA; exact hV.g9 (dt hp9_0) (df hp9_1) (dt hp9_2) (df hp9_3) (dt hp9_4) (dt hp9_5)
  · rename_i hp10_0 hp10_1 hp10_2 hp10_3 hp10_4 hp10_5
    subst hA; exact hV.g10 (dt hp10_0) (df hp10_1) (dt hp10_2) (df hp10_3) (dt hp10_4) (dt hp10_5)
  · rename_i hp11_0 hp11_1 hp11_2 hp11_3 hp11_4 hp11_5 hp11_6 hp11_7
    subst hA; exact hV.g11 (dt hp11_0) (df hp11_1) (dt hp11_2) (df hp11_3) (dt hp11_4) (df hp11_5) (dt hp11_6) (dt hp11_7)
  · rename_i hp12_0 hp12_1 hp12_2 hp12_3 hp12_4 hp12_5 hp12_6 hp12_7
    subst hA; exact hV.g12 (dt hp12_0) (df hp12_1) (dt hp12_2) (df hp12_3) (dt hp12_4) (df hp12_5) (dt hp12_6) (dt hp12_7)
  · rename_i hp13_0 hp13_1 hp13_2 hp13_3 hp13_4 hp13_5 hp13_6 hp13_7
    subst hA; exact hV.g13 (dt hp13_0) (df hp13_1) (dt hp13_2) (df hp13_3) (dt hp13_4) (df hp13_5) (dt hp13_6) (df hp13_7)
  · rename_i hp14_0 hp14_1 hp14_2 hp14_3 hp14_4 hp14_5 hp14_6
    subst hA; exact hV.g14 (dt hp14_0) (df hp14_1) (dt hp14_2) (df hp14_3) (dt hp14_4) (df hp14_5) (df hp14_6)
  · rename_i hp15_0 hp15_1 hp15_2 hp15_3 hp15_4 hp15_5 hp15_6
    subst hA; exact hV.g15 (dt hp15_0) (df hp15_1) (dt hp15_2) (df hp15_3) (df hp15_4) (dt hp15_5) (dt hp15_6)
  · rename_i hp16_0 hp16_1 hp16_2 hp16_3 hp16_4 hp16_5 hp16_6
    subst hA; exact hV.g16 (dt hp16_0) (df hp16_1) (dt hp16_2) (df hp16_3) (df hp16_4) (dt hp16_5) (dt hp16_6)
  · rename_i hp17_0 hp17_1 hp17_2 hp17_3 hp17_4 hp17_5 hp17_6
    subst hA; exact hV.g17 (dt hp17_0) (df hp17_1) (dt hp17_2) (df hp17_3) (df hp17_4) (dt hp17_5) (df hp17_6)
  · rename_i hp18_0 hp18_1 hp18_2 hp18_3 hp18_4 hp18_5
    subst hA; exact hV.g18 (dt hp18_0) (df hp18_1) (dt hp18_2) (df hp18_3) (df hp18_4) (df hp18_5)
  · rename_i hp19_0 hp19_1 hp19_2 hp19_3 hp19_4
    subst hA; exact hV.g19 (dt hp19_0) (df hp19_1) (df hp19_2) (dt hp19_3) (dt hp19_4)
  · rename_i hp20_0 hp20_1 hp20_2 hp20_3 hp20_4
    subst hA; exact hV.g20 (dt hp20_0) (df hp20_1) (df hp20_2) (dt hp20_3) (dt hp20_4)
  · rename_i hp21_0 hp21_1 hp21_2 hp21_3 hp21_4 hp21_5 hp21_6
    subst hA; exact hV.g21 (dt hp21_0) (df hp21_1) (df hp21_2) (dt hp21_3) (df hp21_4) (dt hp21_5) (dt hp21_6)
  · rename_i hp22_0 hp22_1 hp22_2 hp22_3 hp22_4 hp22_5 hp22_6
    subst hA; exact hV.g22 (dt hp22_0) (df hp22_1) (df hp22_2) (dt hp22_3) (df hp22_4) (dt hp22_5) (dt hp22_6)
  · rename_i hp23_0 hp23_1 hp23_2 hp23_3 hp23_4 hp23_5 hp23_6
    subst hA; exact hV.g23 (dt hp23_0) (df hp23_1) (df hp23_2) (dt hp23_3) (df hp23_4) (dt hp23_5) (df hp23_6)
  · rename_i hp24_0 hp24_1 hp24_2 hp24_3 hp24_4 hp24_5
    subst hA; exact hV.g24 (dt hp24_0) (df hp24_1) (df hp24_2) (dt hp24_3) (df hp24_4) (df hp24_5)
  · rename_i hp25_0 hp25_1 hp25_2 hp25_3 hp25_4 hp25_5
    subst hA; exact hV.g25 (dt hp25_0) (df hp25_1) (df hp25_2) (df hp25_3) (dt hp25_4) (dt hp25_5)
  · rename_i hp26_0 hp26_1 hp26_2 hp26_3 hp26_4 hp26_5
    subst hA; exact hV.g26 (dt hp26_0) (df hp26_1) (df hp26_2) (df hp26_3) (dt hp26_4) (dt hp26_5)
  · rename_i hp27_0 hp27_1 hp27_2 hp27_3 hp27_4 hp27_5
    subst hA; exact hV.g27 (dt hp27_0) (df hp27_1) (df hp27_2) (df hp27_3) (dt hp27_4) (df hp27_5)
  · rename_i hp28_0 hp28_1 hp28_2 hp28_3 hp28_4
    subst hA; exact hV.g28 (dt hp28_0) (df hp28_1) (df hp28_2) (df hp28_3) (df hp28_4)
  · rename_i hp29_0 hp29_1
    subst hA; exact hV.g29 (df hp29_0) (dt hp29_1)
  · rename_i hp30_0 hp30_1 hp30_2
    subst hA; exact hV.g30 (df hp30_0) (dt hp30_1) (dt hp30_2)
  · rename_i hp31_0 hp31_1 hp31_2
    subst hA; exact hV.g31 (df hp31_0) (dt hp31_1) (dt hp31_2)
  · rename_i hp32_0 hp32_1 hp32_2 hp32_3 hp32_4
    subst hA; exact hV.g32 (df hp32_0) (dt hp32_1) (df hp32_2) (dt hp32_3) (dt hp32_4)
  · rename_i hp33_0 hp33_1 hp33_2 hp33_3 hp33_4
    subst hA; exact hV.g33 (df hp33_0) (dt hp33_1) (df hp33_2) (dt hp33_3) (dt hp33_4)
  · rename_i hp34_0 hp34_1 hp34_2 hp34_3 hp34_4 hp34_5 hp34_6
    subst hA; exact hV.g34 (df hp34_0) (dt hp34_1) (df hp34_2) (dt hp34_3) (df hp34_4) (dt hp34_5) (dt hp34_6)
  · rename_i hp35_0 hp35_1 hp35_2 hp35_3 hp35_4 hp35_5 hp35_6
    subst hA; exact hV.g35 (df hp35_0) (dt hp35_1) (df hp35_2) (dt hp35_3) (df hp35_4) (dt hp35_5) (dt hp35_6)
  · rename_i hp36_0 hp36_1 hp36_2 hp36_3 hp36_4 hp36_5 hp36_6
    subst hA; exact hV.g36 (df hp36_0) (dt hp36_1) (df hp36_2) (dt hp36_3) (df hp36_4) (dt hp36_5) (df hp36_6)
  · rename_i hp37_0 hp37_1 hp37_2 hp37_3 hp37_4 hp37_5
    subst hA; exact hV.g37 (df hp37_0) (dt hp37_1) (df hp37_2) (dt hp37_3) (df hp37_4) (df hp37_5)
  · rename_i hp38_0 hp38_1 hp38_2 hp38_3 hp38_4 hp38_5
    subst hA; exact hV.g38 (df hp38_0) (dt hp38_1) (df hp38_2) (df hp38_3) (dt hp38_4) (dt hp38_5)
  · rename_i hp39_0 hp39_1 hp39_2 hp39_3 hp39_4 hp39_5
    subst hA; exact hV.g39 (df hp39_0) (dt hp39_1) (df hp39_2) (df hp39_3) (dt hp39_4) (dt hp39_5)
  · rename_i hp40_0 hp40_1 hp40_2 hp40_3 hp40_4 hp40_5
    subst hA; exact hV.g40 (df hp40_0) (dt hp40_1) (df hp40_2) (df hp40_3) (dt hp40_4) (df hp40_5)
  · rename_i hp41_0 hp41_1 hp41_2 hp41_3 hp41_4
    subst hA; exact hV.g41 (df hp41_0) (dt hp41_1) (df hp41_2) (df hp41_3) (df hp41_4)
  · rename_i hp42_0 hp42_1 hp42_2 hp42_3
    subst hA; exact hV.g42 (df hp42_0) (df hp42_1) (dt hp42_2) (dt hp42_3)
  · rename_i hp43_0 hp43_1 hp43_2 hp43_3
    subst hA; exact hV.g43 (df hp43_0) (df hp43_1) (dt hp43_2) (dt hp43_3)
  · rename_i hp44_0 hp44_1 hp44_2 hp44_3 hp44_4 hp44_5
    subst hA; exact hV.g44 (df hp44_0) (df hp44_1) (dt hp44_2) (df hp44_3) (dt hp44_4) (dt hp44_5)
  · rename_i hp45_0 hp45_1 hp45_2 hp45_3 hp45_4 hp45_5
    subst hA; exact hV.g45 (df hp45_0) (df hp45_1) (dt hp45_2) (df hp45_3) (dt hp45_4) (dt hp45_5)
  · rename_i hp46_0 hp46_1 hp46_2 hp46_3 hp46_4 hp46_5
    subst hA; exact hV.g46 (df hp46_0) (df hp46_1) (dt hp46_2) (df hp46_3) (dt hp46_4) (df hp46_5)
  · rename_i hp47_0 hp47_1 hp47_2 hp47_3 hp47_4
    subst hA; exact hV.g47 (df hp47_0) (df hp47_1) (dt hp47_2) (df hp47_3) (df hp47_4)
  · rename_i hp48_0 hp48_1 hp48_2 hp48_3 hp48_4
    subst hA; exact hV.g48 (df hp48_0) (df hp48_1) (df hp48_2) (dt hp48_3) (dt hp48_4)
  · rename_i hp49_0 hp49_1 hp49_2 hp49_3 hp49_4
    subst hA; exact hV.g49 (df hp49_0) (df hp49_1) (df hp49_2) (dt hp49_3) (dt hp49_4)
  · rename_i hp50_0 hp50_1 hp50_2 hp50_3 hp50_4
    subst hA; exact hV.g50 (df hp50_0) (df hp50_1) (df hp50_2) (dt hp50_3) (df hp50_4)
  · rename_i hp51_0 hp51_1 hp51_2 hp51_3
    subst hA; exact hV.g51 (df hp51_0) (df hp51_1) (df hp51_2) (df hp51_3)
end HX

namespace HX
open Go Go.Proofs CX
set_option maxHeartbeats 4000000 in
set_option maxRecDepth 100000 in
theorem walk88 {ro A pre fn} (hE : EnvOk ⟨A, (cxE ro), ksF, sigL [], pre, fn⟩) {P : List (List D) → Prop} {res : List (List D) → Nat → Nat → D}
    (hv : ∀ (a0_0 : Int) (a0_1 : Int) (a0_2 : Int) (a1 : Int) (a2 : Int), P [[.i a0_0, .i a0_1, .i a0_2], [.i a1], [.i a2]] → V88 a0_0 a0_1 a0_2 a1 a2 (res [[.i a0_0, .i a0_1, .i a0_2], [.i a1], [.i a2]]) ) :
    PureC (cxE ro) 88 ⟨[(true, [.int .i64, .int .i64, .int .i64]), (false, [.int .i64]), (false, [.int .i64])], [(false, [.int .i64]), (false, [.bool])], false⟩ P res := by
  have hA := hE.A
  simp only [] at hA
  have hinl : ∀ f fn, inlL [(50, Try.f50)] f = some fn → (cxE ro).fn f = some fn ∧ (cxE ro).ext f = none := Inls.ok (by repeat (first | exact .nil | refine .cons rfl rfl ?_))
  refine PureC.of_vc hE hinl 6 (f := 88) (fn := Try.f88) ⟨rfl, rfl⟩ ?_
  intro a0_0 a0_1 a0_2 a1 a2 hP
  obtain ⟨R, hR⟩ : ∃ R, res [[.i a0_0, .i a0_1, .i a0_2], [.i a1], [.i a2]] = R := ⟨_, rfl⟩
  rw [hR]
  have hV := hv a0_0 a0_1 a0_2 a1 a2  hP
  rw [hR] at hV
  clear hR hP hv
  cbv
  repeat' (first | (refine Br.mk (fun _ => ?_) (fun _ => ?_) <;> cbv) | (refine NilB.mk (fun _ => ?_) ?_ <;> cbv) | refine And.intro ?_ ?_ | exact True.intro)
  · subst hA; exact hV.g0
  · subst hA; exact hV.g0
  · subst hA; exact hV.g2
  · rename_i hp3_0
    subst hA; exact hV.g3 (dt hp3_0)
  · rename_i hp4_0
    subst hA; exact hV.g4 (dt hp4_0)
  · rename_i hp5_0
    subst hA; exact hV.g5 (dt hp5_0)
  · rename_i hp6_0 hp6_1 hp6_2 hp6_3
    subst hA; exact hV.g6 (dt hp6_0) (dt hp6_1) (dt hp6_2) (dt hp6_3)
  · rename_i hp7_0 hp7_1 hp7_2 hp7_3
    subst hA; exact hV.g7 (dt hp7_0) (dt hp7_1) (dt hp7_2) (dt hp7_3)
  · rename_i hp8_0 hp8_1 hp8_2 hp8_3
    subst hA; exact hV.g8 (dt hp8_0) (dt hp8_1) (dt hp8_2) (df hp8_3)
  · rename_i hp9_0 hp9_1 hp9_2 hp9_3
    subst hA; exact hV.g9 (dt hp9_0) (dt hp9_1) (dt hp9_2) (df hp9_3)
  · rename_i hp10_0 hp10_1 hp10_2
    subst hA; exact hV.g10 (dt hp10_0) (dt hp10_1) (df hp10_2)
  · rename_i hp11_0 hp11_1 hp11_2
    subst hA; exact hV.g11 (dt hp11_0) (dt hp11_1) (df hp11_2)
  · rename_i hp12_0 hp12_1
    subst hA; exact hV.g12 (dt hp12_0) (df hp12_1)
  · rename_i hp13_0 hp13_1
    subst hA; exact hV.g13 (dt hp13_0) (df hp13_1)
  · rename_i hp14_0 hp14_1
    subst hA; exact hV.g14 (df hp14_0) (dt hp14_1)
  · rename_i hp15_0 hp15_1
    subst hA; exact hV.g15 (df hp15_0) (dt hp15_1)
  · rename_i hp16_0 hp16_1
    subst hA; exact hV.g16 (df hp16_0) (dt hp16_1)
  · rename_i hp17_0 hp17_1 hp17_2 hp17_3 hp17_4
    subst hA; exact hV.g17 (df hp17_0) (dt hp17_1) (dt hp17_2) (dt hp17_3) (dt hp17_4)
  · rename_i hp18_0 hp18_1 hp18_2 hp18_3 hp18_4
    subst hA; exact hV.g18 (df hp18_0) (dt hp18_1) (dt hp18_2) (dt hp18_3) (dt hp18_4)
  · rename_i hp19_0 hp19_1 hp19_2 hp19_3 hp19_4
    subst hA; exact hV.g19 (df hp19_0) (dt hp19_1) (dt hp19_2) (dt hp19_3) (df hp19_4)
  · rename_i hp20_0 hp20_1 hp20_2 hp20_3 hp20_4
    subst hA; exact hV.g20 (df hp20_0) (dt hp20_1) (dt hp20_2) (dt hp20_3) (df hp20_4)
  · rename_i hp21_0 hp21_1 hp21_2 hp21_3
    subst hA; exact hV.g21 (df hp21_0) (dt hp21_1) (dt hp21_2) (df hp21_3)
  · rename_i hp22_0 hp22_1 hp22_2 hp22_3
    subst hA; exact hV.g22 (df hp22_0) (dt hp22_1) (dt hp22_2) (df hp22_3)
  · rename_i hp23_0 hp23_1 hp23_2
    subst hA; exact hV.g23 (df hp23_0) (dt hp23_1) (df hp23_2)
  · rename_i hp24_0 hp24_1 hp24_2
    subst hA; exact hV.g24 (df hp24_0) (dt hp24_1) (df hp24_2)
  · rename_i hp25_0 hp25_1 hp25_2
    subst hA; exact hV.g25 (df hp25_0) (df hp25_1) (dt hp25_2)
  · rename_i hp26_0 hp26_1 hp26_2
    subst hA; exact hV.g26 (df hp26_0) (df hp26_1) (dt hp26_2)
  · rename_i hp27_0 hp27_1 hp27_2
    subst hA; exact hV.g27 (df hp27_0) (df hp27_1) (dt hp27_2)
  · rename_i hp28_0 hp28_1 hp28_2 hp28_3 hp28_4 hp28_5
    subst hA; exact hV.g28 (df hp28_0) (df hp28_1) (dt hp28_2) (dt hp28_3) (dt hp28_4) (dt hp28_5)
  · rename_i hp29_0 hp29_1 hp29_2 hp29_3 hp29_4 hp29_5
    subst hA; exact hV.g29 (df hp29_0) (df hp29_1) (dt hp29_2) (dt hp29_3) (dt hp29_4) (dt hp29_5)
  · rename_i hp30_0 hp30_1 hp30_2 hp30_3 hp30_4 hp30_5
    subst hA; exact hV.g30 (df hp30_0) (df hp30_1) (dt hp30_2) (dt hp30_3) (dt hp30_4) (df hp30_5)
  · rename_i hp31_0 hp31_1 hp31_2 hp31_3 hp31_4 hp31_5
    subst hA; exact hV.g31 (df hp31_0) (df hp31_1) (dt hp31_2) (dt hp31_3) (dt hp31_4) (df hp31_5)
  · rename_i hp32_0 hp32_1 hp32_2 hp32_3 hp32_4
    subst hA; exact hV.g32 (df hp32_0) (df hp32_1) (dt hp32_2) (dt hp32_3) (df hp32_4)
  · rename_i hp33_0 hp33_1 hp33_2 hp33_3 hp33_4
    subst hA; exact hV.g33 (df hp33_0) (df hp33_1) (dt hp33_2) (dt hp33_3) (df hp33_4)
  · rename_i hp34_0 hp34_1 hp34_2 hp34_3
    subst hA; exact hV.g34 (df hp34_0) (df hp34_1) (dt hp34_2) (df hp34_3)
  · rename_i hp35_0 hp35_1 hp35_2 hp35_3
    subst hA; exact hV.g35 (df hp35_0) (df hp35_1) (dt hp35_2) (df hp35_3)
  · rename_i hp36_0 hp36_1 hp36_2 hp36_3
    subst hA; exact hV.g36 (df hp36_0) (df hp36_1) (df hp36_2) (dt hp36_3)
  · rename_i hp37_0 hp37_1 hp37_2 hp37_3
    subst hA; exact hV.g37 (df hp37_0) (df hp37_1) (df hp37_2) (dt hp37_3)
  · rename_i hp38_0 hp38_1 hp38_2 hp38_3
    subst hA; exact hV.g38 (df hp38_0) (df hp38_1) (df hp38_2) (dt hp38_3)
  · rename_i hp39_0 hp39_1 hp39_2 hp39_3 hp39_4 hp39_5 hp39_6
    subst hA; exact hV.g39 (df hp39_0) (df hp39_1) (df hp39_2) (dt hp39_3) (dt hp39_4) (dt hp39_5) (dt hp39_6)
  · rename_i hp40_0 hp40_1 hp40_2 hp40_3 hp40_4 hp40_5 hp40_6
    subst hA; exact hV.g40 (df hp40_0) (df hp40_1) (df hp40_2) (dt hp40_3) (dt hp40_4) (dt hp40_5) (dt hp40_6)
  · rename_i hp41_0 hp41_1 hp41_2 hp41_3 hp41_4 hp41_5 hp41_6
    subst hA; exact hV.g41 (df hp41_0) (df hp41_1) (df hp41_2) (dt hp41_3) (dt hp41_4) (dt hp41_5) (df hp41_6)
  · rename_i hp42_0 hp42_1 hp42_2 hp42_3 hp42_4 hp42_5 hp42_6
    subst hA; exact hV.g42 (df hp42_0) (df hp42_1) (df hp42_2) (dt hp42_3) (dt hp42_4) (dt hp42_5) (df hp42_6)
  · rename_i hp43_0 hp43_1 hp43_2 hp43_3 hp43_4 hp43_5
    subst hA; exact hV.g43 (df hp43_0) (df hp43_1) (df hp43_2) (dt hp43_3) (dt hp43_4) (df hp43_5)
  · rename_i hp44_0 hp44_1 hp44_2 hp44_3 hp44_4 hp44_5
    subst hA; exact hV.g44 (df hp44_0) (df hp44_1) (df hp44_2) (dt hp44_3) (dt hp44_4) (df hp44_5)
  · rename_i hp45_0 hp45_1 hp45_2 hp45_3 hp45_4
    subst hA; exact hV.g45 (df hp45_0) (df hp45_1) (df hp45_2) (dt hp45_3) (df hp45_4)
  · rename_i hp46_0 hp46_1 hp46_2 hp46_3 hp46_4
    subst hA; exact hV.g46 (df hp46_0) (df hp46_1) (df hp46_2) (dt hp46_3) (df hp46_4)
  · rename_i hp47_0 hp47_1 hp47_2 hp47_3
    subst hA; exact hV.g47 (df hp47_0) (df hp47_1) (df hp47_2) (df hp47_3)
  · rename_i hp48_0 hp48_1 hp48_2 hp48_3
    subst hA; exact hV.g48 (df hp48_0) (df hp48_1) (df hp48_2) (df hp48_3)
  · rename_i hp49_0 hp49_1 hp49_2 hp49_3 hp49_4 hp49_5 hp49_6
    subst hA; exact hV.g49 (df hp49_0) (df hp49_1) (df hp49_2) (df hp49_3) (dt hp49_4) (dt hp49_5) (dt hp49_6)
  · rename_i hp50_0 hp50_1 hp50_2 hp50_3 hp50_4 hp50_5 hp50_6
    subst hA; exact hV.g50 (df hp50_0) (df hp50_1) (df hp50_2) (df hp50_3) (dt hp50_4) (dt hp50_5) (dt hp50_6)
  · rename_i hp51_0 hp51_1 hp51_2 hp51_3 hp51_4 hp51_5 hp51_6
    subst hA; exact hV.g51 (df hp51_0) (df hp51_1) (df hp51_2) (df hp51_3) (dt hp51_4) (dt hp51_5) (df hp51_6)
  · rename_i hp52_0 hp52_1 hp52_2 hp52_3 hp52_4 hp52_5 hp52_6
    subst hA; exact hV.g52 (df hp52_0) (df hp52_1) (df hp52_2) (df hp52_3) (dt hp52_4) (dt hp52_5) (df hp52_6)
  · rename_i hp53_0 hp53_1 hp53_2 hp53_3 hp53_4 hp53_5
    subst hA; exact hV.g53 (df hp53_0) (df hp53_1) (df hp53_2) (df hp53_3) (dt hp53_4) (df hp53_5)
  · rename_i hp54_0 hp54_1 hp54_2 hp54_3 hp54_4 hp54_5
    subst hA; exact hV.g54 (df hp54_0) (df hp54_1) (df hp54_2) (df hp54_3) (dt hp54_4) (df hp54_5)
  · rename_i hp55_0 hp55_1 hp55_2 hp55_3 hp55_4
    subst hA; exact hV.g55 (df hp55_0) (df hp55_1) (df hp55_2) (df hp55_3) (df hp55_4)
  · rename_i hp56_0 hp56_1 hp56_2 hp56_3 hp56_4
    subst hA; exact hV.g56 (df hp56_0) (df hp56_1) (df hp56_2) (df hp56_3) (df hp56_4)
end HX

namespace HX
open Go Go.Proofs CX
set_option maxHeartbeats 4000000 in
set_option maxRecDepth 100000 in
theorem walk56 {ro A pre fn} (hE : EnvOk ⟨A, (cxE ro), ksF, sigL [(50, ⟨[(true, [.int .i64, .int .i64, .int .i64]), (false, [.int .i64])], [(true, [.int .i64, .int .i64])], false⟩)], pre, fn⟩) {P : List (List D) → Prop} {res : List (List D) → Nat → Nat → D}
    (hv : ∀ (a0_0 : Int) (a0_1 : Int) (a0_2 : Int) (a1 : Int) (a2 : Int), P [[.i a0_0, .i a0_1, .i a0_2], [.i a1], [.i a2]] → V56 pre fn a0_0 a0_1 a0_2 a1 a2 (res [[.i a0_0, .i a0_1, .i a0_2], [.i a1], [.i a2]]) ) :
    PureC (cxE ro) 56 ⟨[(true, [.int .i64, .int .i64, .int .i64]), (false, [.int .i64]), (false, [.int .i64])], [(false, [.int .i64])], false⟩ P res := by
  have hA := hE.A
  simp only [] at hA
  have hinl : ∀ f fn, inlL [] f = some fn → (cxE ro).fn f = some fn ∧ (cxE ro).ext f = none := Inls.ok (by repeat (first | exact .nil | refine .cons rfl rfl ?_))
  refine PureC.of_vc hE hinl 6 (f := 56) (fn := Try.f56) ⟨rfl, rfl⟩ ?_
  intro a0_0 a0_1 a0_2 a1 a2 hP
  obtain ⟨R, hR⟩ : ∃ R, res [[.i a0_0, .i a0_1, .i a0_2], [.i a1], [.i a2]] = R := ⟨_, rfl⟩
  rw [hR]
  have hV := hv a0_0 a0_1 a0_2 a1 a2  hP
  rw [hR] at hV
  clear hR hP hv
  cbv
  repeat' (first | (refine Br.mk (fun _ => ?_) (fun _ => ?_) <;> cbv) | (refine NilB.mk (fun _ => ?_) ?_ <;> cbv) | refine And.intro ?_ ?_ | exact True.intro)
  · subst hA; exact hV.g0
  · subst hA; exact hV.g1
  · rename_i hp2_0
    subst hA; exact hV.g2 (dt hp2_0)
  · rename_i hp3_0 hp3_1
    subst hA; exact hV.g3 (df hp3_0) (dt hp3_1)
  · rename_i hp4_0 hp4_1 hp4_2
    subst hA; exact hV.g4 (df hp4_0) (df hp4_1) (dt hp4_2)
  · rename_i hp5_0 hp5_1 hp5_2 hp5_3
    subst hA; exact hV.g5 (df hp5_0) (df hp5_1) (df hp5_2) (dt hp5_3)
  · rename_i hp6_0 hp6_1 hp6_2 hp6_3
    subst hA; exact hV.g6 (df hp6_0) (df hp6_1) (df hp6_2) (df hp6_3)
end HX

namespace HX
open Go Go.Proofs CX
set_option maxHeartbeats 4000000 in
set_option maxRecDepth 100000 in
theorem walk15 {ro A pre fn} (hE : EnvOk ⟨A, (cxE ro), ksF, sigL [(49, ⟨[(true, [.int .i64, .int .i64, .int .i64]), (false, [.sl [.int .i64]])], [(false, [.int .i64])], false⟩), (50, ⟨[(true, [.int .i64, .int .i64, .int .i64]), (false, [.int .i64])], [(true, [.int .i64, .int .i64])], false⟩)], pre, fn⟩) {P : List (List D) → Prop} {res : List (List D) → Nat → Nat → D}
    (hv : ∀ (a0_0 : Int) (a0_1 : Int) (a0_2 : Int) (a1 : Int) (a2 : Int), P [[.i a0_0, .i a0_1, .i a0_2], [.i a1], [.i a2]] → V15 pre fn a0_0 a0_1 a0_2 a1 a2 (res [[.i a0_0, .i a0_1, .i a0_2], [.i a1], [.i a2]]) ) :
    PureC (cxE ro) 15 ⟨[(true, [.int .i64, .int .i64, .int .i64]), (false, [.int .i64]), (false, [.int .i64])], [(false, [.int .i64]), (false, [.int .i64])], false⟩ P res := by
  have hA := hE.A
  simp only [] at hA
  have hinl : ∀ f fn, inlL [] f = some fn → (cxE ro).fn f = some fn ∧ (cxE ro).ext f = none := Inls.ok (by repeat (first | exact .nil | refine .cons rfl rfl ?_))
  refine PureC.of_vc hE hinl 6 (f := 15) (fn := Try.f15) ⟨rfl, rfl⟩ ?_
  intro a0_0 a0_1 a0_2 a1 a2 hP
  obtain ⟨R, hR⟩ : ∃ R, res [[.i a0_0, .i a0_1, .i a0_2], [.i a1], [.i a2]] = R := ⟨_, rfl⟩
  rw [hR]
  have hV := hv a0_0 a0_1 a0_2 a1 a2  hP
  rw [hR] at hV
  clear hR hP hv
  cbv
  repeat' (first | (refine Br.mk (fun _ => ?_) (fun _ => ?_) <;> cbv) | (refine NilB.mk (fun _ => ?_) ?_ <;> cbv) | refine And.intro ?_ ?_ | exact True.intro)
  · subst hA; exact hV.g0
  · rename_i hp1_0
    subst hA; exact hV.g1 (df (nt hp1_0))
  · rename_i hp2_0
    subst hA; exact hV.g2 (df (nt hp2_0))
  · rename_i hp3_0
    subst hA; exact hV.g3 (dt (nf hp3_0))
  · rename_i hp4_0
    subst hA; exact hV.g4 (dt (nf hp4_0))
  · rename_i hp5_0
    subst hA; exact hV.g5 (dt (nf hp5_0))
  · rename_i hp6_0
    subst hA; exact hV.g6 (dt (nf hp6_0))
  · rename_i hp7_0
    subst hA; exact hV.g7 (dt (nf hp7_0))
  · rename_i hp8_0
    subst hA; exact hV.g8 (dt (nf hp8_0))
  · rename_i hp9_0
    subst hA; exact hV.g9 (dt (nf hp9_0))
  · rename_i hp10_0
    subst hA; exact hV.g10 (dt (nf hp10_0))
  · rename_i hp11_0
    subst hA; exact hV.g11 (dt (nf hp11_0))
end HX

namespace HX
open Go Go.Proofs CX
set_option maxHeartbeats 4000000 in
set_option maxRecDepth 100000 in
theorem walk20 {ro A pre fn} (hE : EnvOk ⟨A, (cxE ro), ksF, sigL [(53, ⟨[(true, [.int .i64, .int .i64, .int .i64]), (false, [.int .i64]), (false, [.int .i64])], [(false, [.int .i64])], false⟩), (54, ⟨[(true, [.int .i64, .int .i64, .int .i64]), (false, [.int .i64]), (false, [.int .i64])], [(false, [.int .i64])], false⟩), (55, ⟨[(true, [.int .i64, .int .i64, .int .i64]), (false, [.int .i64]), (false, [.int .i64])], [(false, [.int .i64])], false⟩)], pre, fn⟩) {P : List (List D) → Prop} {res : List (List D) → Nat → Nat → D}
    (hv : ∀ (a0_0 : Int) (a0_1 : Int) (a0_2 : Int) (a1 : Int) (a2 : Int), P [[.i a0_0, .i a0_1, .i a0_2], [.i a1], [.i a2]] → ∃ (I0 : Int → Rows → Prop) (m0 : Int → Rows → Nat), V20 pre fn a0_0 a0_1 a0_2 a1 a2 (res [[.i a0_0, .i a0_1, .i a0_2], [.i a1], [.i a2]]) I0 m0) :
    PureC (cxE ro) 20 ⟨[(true, [.int .i64, .int .i64, .int .i64]), (false, [.int .i64]), (false, [.int .i64])], [(false, [.sl [.int .i64]]), (false, [.int .i64])], false⟩ P res := by
  have hA := hE.A
  simp only [] at hA
  have hinl : ∀ f fn, inlL [] f = some fn → (cxE ro).fn f = some fn ∧ (cxE ro).ext f = none := Inls.ok (by repeat (first | exact .nil | refine .cons rfl rfl ?_))
  refine PureC.of_vc hE hinl 6 (f := 20) (fn := Try.f20) ⟨rfl, rfl⟩ ?_
  intro a0_0 a0_1 a0_2 a1 a2 hP
  obtain ⟨R, hR⟩ : ∃ R, res [[.i a0_0, .i a0_1, .i a0_2], [.i a1], [.i a2]] = R := ⟨_, rfl⟩
  rw [hR]
  obtain ⟨I0, m0, hV⟩ := hv a0_0 a0_1 a0_2 a1 a2  hP
  rw [hR] at hV
  clear hR hP hv
  cbv
  repeat' (first | (refine Br.mk (fun _ => ?_) (fun _ => ?_) <;> cbv) | (refine NilB.mk (fun _ => ?_) ?_ <;> cbv) | refine And.intro ?_ ?_ | exact True.intro)
  · subst hA; exact hV.g0
  · rename_i hp1_0
    subst hA; exact hV.g1 (df (nt hp1_0))
  · rename_i hp2_0
    subst hA; exact hV.g2 (df (nt hp2_0))
  · rename_i hp3_0
    refine Leaf.gen fun σz hσz => ?_
    refine loopB hE hinl 6 [] [] [] (fun x : Int × Rows => [.i x.1, .l x.2]) (fun x => I0 x.1 x.2) (fun x => m0 x.1 x.2) (a1, [[D.i a1]]) (by subst hA; exact hV.i0 (dt (nf hp3_0))) ?_ ?_ <;> subst hσz
    · clear hE hinl hV; cbv; (try (repeat' (first | exact True.intro | rfl | assumption | apply And.intro)))
    · intro ⟨x0_0, x0_1⟩ hI0 K0 hK0
      cbv
      repeat' (first | (refine Br.mk (fun _ => ?_) (fun _ => ?_) <;> cbv) | (refine NilB.mk (fun _ => ?_) ?_ <;> cbv) | refine And.intro ?_ ?_ | exact True.intro)
      · rename_i hp4_0
        subst hA; exact hV.g4 _ _ hI0 (dt (nf hp3_0)) (df (nt hp4_0))
      · rename_i hp5_0
        subst hA; exact hV.g5 _ _ hI0 (dt (nf hp3_0)) (df (nt hp5_0))
      · rename_i hp6_0
        subst hA; exact hV.g6 _ _ hI0 (dt (nf hp3_0)) (df (nt hp6_0))
      · rename_i hp7_0
        refine hK0 (A.di (fn 54 [[D.i a0_0, D.i a0_1, D.i a0_2], [D.i x0_0], [D.i (A.di (fn 55 [[D.i a0_0, D.i a0_1, D.i a0_2], [D.i x0_0], [D.i a2]] 0 0))]] 0 0), A.app x0_1 [[D.i (A.di (fn 54 [[D.i a0_0, D.i a0_1, D.i a0_2], [D.i x0_0], [D.i (A.di (fn 55 [[D.i a0_0, D.i a0_1, D.i a0_2], [D.i x0_0], [D.i a2]] 0 0))]] 0 0))]]) _ ?_ ?_ ?_
        · subst hA; exact (hV.n7 _ _ hI0 (dt (nf hp3_0)) (df (nt hp7_0))).1
        · subst hA; exact (hV.n7 _ _ hI0 (dt (nf hp3_0)) (df (nt hp7_0))).2
        · clear hE hinl hV hK0; cbv; (try (repeat' (first | exact True.intro | rfl | assumption | apply And.intro)))
      · rename_i hp8_0
        subst hA; exact hV.g8 _ _ hI0 (dt (nf hp3_0)) (dt (nf hp8_0))
      · rename_i hp9_0
        subst hA; exact hV.g9 _ _ hI0 (dt (nf hp3_0)) (dt (nf hp9_0))
end HX

namespace HX
open Go Go.Proofs CX
set_option maxHeartbeats 4000000 in
set_option maxRecDepth 100000 in
theorem walk16 {ro A pre fn} (hE : EnvOk ⟨A, (cxE ro), ksF, sigL [(20, ⟨[(true, [.int .i64, .int .i64, .int .i64]), (false, [.int .i64]), (false, [.int .i64])], [(false, [.sl [.int .i64]]), (false, [.int .i64])], false⟩)], pre, fn⟩) {P : List (List D) → Prop} {res : List (List D) → Nat → Nat → D}
    (hv : ∀ (a0_0 : Int) (a0_1 : Int) (a0_2 : Int) (a1 : Int) (a2 : Int), P [[.i a0_0, .i a0_1, .i a0_2], [.i a1], [.i a2]] → V16 pre fn a0_0 a0_1 a0_2 a1 a2 (res [[.i a0_0, .i a0_1, .i a0_2], [.i a1], [.i a2]]) ) :
    PureC (cxE ro) 16 ⟨[(true, [.int .i64, .int .i64, .int .i64]), (false, [.int .i64]), (false, [.int .i64])], [(false, [.int .i64]), (false, [.int .i64])], false⟩ P res := by
  have hA := hE.A
  simp only [] at hA
  have hinl : ∀ f fn, inlL [] f = some fn → (cxE ro).fn f = some fn ∧ (cxE ro).ext f = none := Inls.ok (by repeat (first | exact .nil | refine .cons rfl rfl ?_))
  refine PureC.of_vc hE hinl 6 (f := 16) (fn := Try.f16) ⟨rfl, rfl⟩ ?_
  intro a0_0 a0_1 a0_2 a1 a2 hP
  obtain ⟨R, hR⟩ : ∃ R, res [[.i a0_0, .i a0_1, .i a0_2], [.i a1], [.i a2]] = R := ⟨_, rfl⟩
  rw [hR]
  have hV := hv a0_0 a0_1 a0_2 a1 a2  hP
  rw [hR] at hV
  clear hR hP hv
  cbv
  repeat' (first | (refine Br.mk (fun _ => ?_) (fun _ => ?_) <;> cbv) | (refine NilB.mk (fun _ => ?_) ?_ <;> cbv) | refine And.intro ?_ ?_ | exact True.intro)
  · subst hA; exact hV.g0
  · rename_i hp1_0
    subst hA; exact hV.g1 (df (nt hp1_0))
  · rename_i hp2_0
    subst hA; exact hV.g2 (df (nt hp2_0))
  · rename_i hp3_0
    subst hA; exact hV.g3 (dt (nf hp3_0))
  · rename_i hp4_0
    subst hA; exact hV.g4 (dt (nf hp4_0))
  · rename_i hp5_0
    subst hA; exact hV.g5 (dt (nf hp5_0))
end HX

namespace HX
open Go Go.Proofs CX
set_option maxHeartbeats 4000000 in
set_option maxRecDepth 100000 in
theorem walk19 {ro A pre fn} (hE : EnvOk ⟨A, (cxE ro), ksF, sigL [(49, ⟨[(true, [.int .i64, .int .i64, .int .i64]), (false, [.sl [.int .i64]])], [(false, [.int .i64])], false⟩), (56, ⟨[(true, [.int .i64, .int .i64, .int .i64]), (false, [.int .i64]), (false, [.int .i64])], [(false, [.int .i64])], false⟩), (88, ⟨[(true, [.int .i64, .int .i64, .int .i64]), (false, [.int .i64]), (false, [.int .i64])], [(false, [.int .i64]), (false, [.bool])], false⟩)], pre, fn⟩) {P : List (List D) → Prop} {res : List (List D) → Nat → Nat → D}
    (hv : ∀ (a0_0 : Int) (a0_1 : Int) (a0_2 : Int) (a1 : Int) (a2 : Int), P [[.i a0_0, .i a0_1, .i a0_2], [.i a1], [.i a2]] → ∃ (I0 : Rows → Int → Prop) (m0 : Rows → Int → Nat), V19 pre fn a0_0 a0_1 a0_2 a1 a2 (res [[.i a0_0, .i a0_1, .i a0_2], [.i a1], [.i a2]]) I0 m0) :
    PureC (cxE ro) 19 ⟨[(true, [.int .i64, .int .i64, .int .i64]), (false, [.int .i64]), (false, [.int .i64])], [(false, [.sl [.int .i64]]), (false, [.int .i64])], false⟩ P res := by
  have hA := hE.A
  simp only [] at hA
  have hinl : ∀ f fn, inlL [(51, Try.f51), (52, Try.f52), (86, Try.f86), (87, Try.f87)] f = some fn → (cxE ro).fn f = some fn ∧ (cxE ro).ext f = none := Inls.ok (by repeat (first | exact .nil | refine .cons rfl rfl ?_))
  refine PureC.of_vc hE hinl 6 (f := 19) (fn := Try.f19) ⟨rfl, rfl⟩ ?_
  intro a0_0 a0_1 a0_2 a1 a2 hP
  obtain ⟨R, hR⟩ : ∃ R, res [[.i a0_0, .i a0_1, .i a0_2], [.i a1], [.i a2]] = R := ⟨_, rfl⟩
  rw [hR]
  obtain ⟨I0, m0, hV⟩ := hv a0_0 a0_1 a0_2 a1 a2  hP
  rw [hR] at hV
  clear hR hP hv
  cbv
  repeat' (first | (refine Br.mk (fun _ => ?_) (fun _ => ?_) <;> cbv) | (refine NilB.mk (fun _ => ?_) ?_ <;> cbv) | refine And.intro ?_ ?_ | exact True.intro)
  · subst hA; exact hV.g0
  · rename_i hp1_0
    subst hA; exact hV.g1 (df (nt hp1_0))
  · rename_i hp2_0
    subst hA; exact hV.g2 (df (nt hp2_0))
  · rename_i hp3_0
    refine Leaf.gen fun σz hσz => ?_
    refine loopB hE hinl 6 [] [] [(7, [24]), (5, [0])] (fun x : Rows × Int => [D.l [[.l x.1]], D.l [[.i x.2]]]) (fun x => I0 x.1 x.2) (fun x => m0 x.1 x.2) ([], a1) (by subst hA; exact hV.i0 (dt (nf hp3_0))) ?_ ?_ <;> subst hσz
    · clear hE hinl hV; cbv; (try (repeat' (first | exact True.intro | rfl | assumption | apply And.intro)))
    · intro ⟨x0_0, x0_1⟩ hI0 K0 hK0
      cbv
      repeat' (first | (refine Br.mk (fun _ => ?_) (fun _ => ?_) <;> cbv) | (refine NilB.mk (fun _ => ?_) ?_ <;> cbv) | refine And.intro ?_ ?_ | exact True.intro)
      · subst hA; exact hV.g4 _ _ hI0 (dt (nf hp3_0))
      · rename_i hp5_0
        subst hA; exact hV.g5 _ _ hI0 (dt (nf hp3_0)) (df (nt hp5_0))
      · rename_i hp6_0
        subst hA; exact hV.g6 _ _ hI0 (dt (nf hp3_0)) (df (nt hp6_0))
      · rename_i hp7_0
        refine hK0 (A.app x0_0 [[D.i x0_1]], A.di (fn 88 [[D.i a0_0, D.i a0_1, D.i a0_2], [D.i x0_1], [D.i (A.di (fn 56 [[D.i a0_0, D.i a0_1, D.i a0_2], [D.i x0_1], [D.i a2]] 0 0))]] 0 0)) _ ?_ ?_ ?_
        · subst hA; exact (hV.n7 _ _ hI0 (dt (nf hp3_0)) (df (nt hp7_0))).1
        · subst hA; exact (hV.n7 _ _ hI0 (dt (nf hp3_0)) (df (nt hp7_0))).2
        · clear hE hinl hV hK0; cbv; (try (repeat' (first | exact True.intro | rfl | assumption | apply And.intro)))
      · rename_i hp8_0
        subst hA; exact hV.g8 _ _ hI0 (dt (nf hp3_0)) (dt (nf hp8_0))
      · rename_i hp9_0
        subst hA; exact hV.g9 _ _ hI0 (dt (nf hp3_0)) (dt (nf hp9_0))
end HX
