/-
  MeshBarriers: for all meshes and ready ticks, the function returns true, and its arguments read as they did.
-/
import Derived.Test.YtcpndododgchbaaMeshBarriers8
import Derived.Test.YtcpndododgchbaaRows
set_option linter.all false
namespace HX
open Go Go.Proofs CX
set_option maxHeartbeats 4000000 in
set_option maxRecDepth 100000 in
theorem walk40 {ro A pre fn} (hE : EnvOk ⟨A, (cxE ro), ksF, sigL [(18, ⟨[(true, [.int .i64, .int .i64, .int .i64])], [(false, [.int .i64])], false⟩), (82, ⟨[(true, [.int .i64, .int .i64, .int .i64]), (false, [.sl [.int .i64]]), (false, [.int .i64])], [(false, [.int .i64])], false⟩), (83, ⟨[(true, [.int .i64, .int .i64, .int .i64]), (false, [.int .i64])], [(false, [.int .i64])], false⟩)], pre, fn⟩) {P : List (List D) → Prop} {res : List (List D) → Nat → Nat → D}
    (hv : ∀ (a0_0 : Int) (a0_1 : Int) (a0_2 : Int) (a1 : Rows), ShR [.int .i64] a1 → P [[.i a0_0, .i a0_1, .i a0_2], [.l a1]] → ∃ (I0 : Rows → Int → Int → Prop) (m0 : Rows → Int → Int → Nat) (I1 : Rows → Int → Int → Rows → Int → Prop) (m1 : Rows → Int → Int → Rows → Int → Nat) (I2 : Rows → Int → Int → Rows → Int → Int → Int → Prop) (m2 : Rows → Int → Int → Rows → Int → Int → Int → Nat), V40 pre fn a0_0 a0_1 a0_2 a1 (res [[.i a0_0, .i a0_1, .i a0_2], [.l a1]]) I0 m0 I1 m1 I2 m2) :
    PureC (cxE ro) 40 ⟨[(true, [.int .i64, .int .i64, .int .i64]), (false, [.sl [.int .i64]])], [(false, [.sl [.int .i64]]), (false, [.int .i64])], false⟩ P res := by
  have hA := hE.A
  simp only [] at hA
  have hinl : ∀ f fn, inlL [] f = some fn → (cxE ro).fn f = some fn ∧ (cxE ro).ext f = none := Inls.ok (by repeat (first | exact .nil | refine .cons rfl rfl ?_))
  refine PureC.of_vc hE hinl 6 (f := 40) (fn := Try.f40) ⟨rfl, rfl⟩ ?_
  intro a0_0 a0_1 a0_2 a1 ha1 hP
  obtain ⟨R, hR⟩ : ∃ R, res [[.i a0_0, .i a0_1, .i a0_2], [.l a1]] = R := ⟨_, rfl⟩
  rw [hR]
  obtain ⟨I0, m0, I1, m1, I2, m2, hV⟩ := hv a0_0 a0_1 a0_2 a1 ha1 hP
  rw [hR] at hV
  clear hR hP hv
  cbv
  repeat' (first | (refine Br.mk (fun _ => ?_) (fun _ => ?_) <;> cbv) | (refine NilB.mk (fun _ => ?_) ?_ <;> cbv) | refine And.intro ?_ ?_ | exact True.intro)
  · subst hA; exact hV.g0
  · rename_i hp1_0
    subst hA; exact hV.g1 (df (nt hp1_0))
  · rename_i hp2_0
    subst hA; exact hV.g2 (df (nt hp2_0))
  · rename_i hp3_0
    subst hA; exact hV.g3 (dt (nf hp3_0))
  · rename_i hp4_0 hp4_1
    subst hA; exact hV.g4 (dt (nf hp4_0)) (df (nt hp4_1))
  · rename_i hp5_0 hp5_1
    subst hA; exact hV.g5 (dt (nf hp5_0)) (df (nt hp5_1))
  · rename_i hp6_0 hp6_1
    refine Leaf.gen fun σz hσz => ?_
    refine loopB hE hinl 6 [] [] [] (fun x : Rows × Int × Int => [.l x.1, .i x.2.1, .i x.2.2]) (fun x => I0 x.1 x.2.1 x.2.2) (fun x => m0 x.1 x.2.1 x.2.2) ([], 0, 0) (by subst hA; exact hV.i0 (dt (nf hp6_0)) (dt (nf hp6_1))) ?_ ?_ <;> subst hσz
    · clear hE hinl hV; cbv; (try (repeat' (first | exact True.intro | rfl | assumption | apply And.intro)))
    · intro ⟨x0_0, x0_1, x0_2⟩ hI0 K0 hK0
      cbv
      repeat' (first | (refine Br.mk (fun _ => ?_) (fun _ => ?_) <;> cbv) | (refine NilB.mk (fun _ => ?_) ?_ <;> cbv) | refine And.intro ?_ ?_ | exact True.intro)
      · rename_i hp7_0
        subst hA; exact hV.g7 _ _ _ hI0 (dt (nf hp6_0)) (dt (nf hp6_1)) (dt hp7_0)
      · rename_i hp8_0
        subst hA; exact hV.g8 _ _ _ hI0 (dt (nf hp6_0)) (dt (nf hp6_1)) (dt hp8_0)
      · rename_i hp9_0
        subst hA; exact hV.g9 _ _ _ hI0 (dt (nf hp6_0)) (dt (nf hp6_1)) (dt hp9_0)
      · rename_i hp10_0 hp10_1
        subst hA; exact hV.g10 _ _ _ hI0 (dt (nf hp6_0)) (dt (nf hp6_1)) (dt hp10_0) (dt hp10_1)
      · rename_i hp11_0 hp11_1
        subst hA; exact hV.g11 _ _ _ hI0 (dt (nf hp6_0)) (dt (nf hp6_1)) (dt hp11_0) (dt hp11_1)
      · rename_i hp12_0 hp12_1
        subst hA; exact hV.g12 _ _ _ hI0 (dt (nf hp6_0)) (dt (nf hp6_1)) (dt hp12_0) (df hp12_1)
      · rename_i hp13_0 hp13_1
        subst hA; exact hV.g13 _ _ _ hI0 (dt (nf hp6_0)) (dt (nf hp6_1)) (dt hp13_0) (df hp13_1)
      · rename_i hp14_0 hp14_1
        subst hA; exact hV.g14 _ _ _ hI0 (dt (nf hp6_0)) (dt (nf hp6_1)) (dt hp14_0) (df hp14_1)
      · rename_i hp15_0 hp15_1 hp15_2
        subst hA; exact hV.g15 _ _ _ hI0 (dt (nf hp6_0)) (dt (nf hp6_1)) (dt hp15_0) (df hp15_1) (dt hp15_2)
      · rename_i hp16_0 hp16_1 hp16_2
        subst hA; exact hV.g16 _ _ _ hI0 (dt (nf hp6_0)) (dt (nf hp6_1)) (dt hp16_0) (df hp16_1) (dt hp16_2)
      · rename_i hp17_0 hp17_1 hp17_2
        subst hA; exact hV.g17 _ _ _ hI0 (dt (nf hp6_0)) (dt (nf hp6_1)) (dt hp17_0) (df hp17_1) (df hp17_2)
      · rename_i hp18_0 hp18_1 hp18_2
        refine hK0 (x0_0, x0_1, A.add x0_2 1) _ ?_ ?_ ?_
        · subst hA; exact (hV.n18 _ _ _ hI0 (dt (nf hp6_0)) (dt (nf hp6_1)) (dt hp18_0) (df hp18_1) (df hp18_2)).1
        · subst hA; exact (hV.n18 _ _ _ hI0 (dt (nf hp6_0)) (dt (nf hp6_1)) (dt hp18_0) (df hp18_1) (df hp18_2)).2
        · clear hE hinl hV hK0; cbv; (try (repeat' (first | exact True.intro | rfl | assumption | apply And.intro)))
      · rename_i hp19_0
        subst hA; exact hV.g19 _ _ _ hI0 (dt (nf hp6_0)) (dt (nf hp6_1)) (df hp19_0)
      · rename_i hp20_0
        refine Leaf.gen fun σz hσz => ?_
        refine loopB hE hinl 6 [] [] [] (fun x : Rows × Int => [.l x.1, .i x.2]) (fun x => I1 x0_0 x0_1 x0_2 x.1 x.2) (fun x => m1 x0_0 x0_1 x0_2 x.1 x.2) ([], 0) (by subst hA; exact hV.i1 _ _ _ hI0 (dt (nf hp6_0)) (dt (nf hp6_1)) (df hp20_0)) ?_ ?_ <;> subst hσz
        · clear hE hinl hV; cbv; (try (repeat' (first | exact True.intro | rfl | assumption | apply And.intro)))
        · intro ⟨x1_0, x1_1⟩ hI1 K1 hK1
          cbv
          repeat' (first | (refine Br.mk (fun _ => ?_) (fun _ => ?_) <;> cbv) | (refine NilB.mk (fun _ => ?_) ?_ <;> cbv) | refine And.intro ?_ ?_ | exact True.intro)
          · rename_i hp21_0
            refine Leaf.gen fun σz hσz => ?_
            refine loopB hE hinl 6 [] [] [] (fun x : Int × Int => [.i x.1, .i x.2]) (fun x => I2 x0_0 x0_1 x0_2 x1_0 x1_1 x.1 x.2) (fun x => m2 x0_0 x0_1 x0_2 x1_0 x1_1 x.1 x.2) (A.di (fn 82 [[D.i a0_0, D.i a0_1, D.i a0_2], [D.l a1], [D.i 0]] 0 0), x1_1) (by subst hA; exact hV.i2 _ _ _ hI0 _ _ hI1 (dt (nf hp6_0)) (dt (nf hp6_1)) (df hp20_0) (dt hp21_0)) ?_ ?_ <;> subst hσz
            · clear hE hinl hV; cbv; (try (repeat' (first | exact True.intro | rfl | assumption | apply And.intro)))
            · intro ⟨x2_0, x2_1⟩ hI2 K2 hK2
              cbv
              repeat' (first | (refine Br.mk (fun _ => ?_) (fun _ => ?_) <;> cbv) | (refine NilB.mk (fun _ => ?_) ?_ <;> cbv) | refine And.intro ?_ ?_ | exact True.intro)
              · rename_i hp22_0
                subst hA; exact hV.g22 _ _ _ hI0 _ _ hI1 _ _ hI2 (dt (nf hp6_0)) (dt (nf hp6_1)) (df hp20_0) (dt hp21_0) (dt hp22_0)
              · rename_i hp23_0
                subst hA; exact hV.g23 _ _ _ hI0 _ _ hI1 _ _ hI2 (dt (nf hp6_0)) (dt (nf hp6_1)) (df hp20_0) (dt hp21_0) (dt hp23_0)
              · rename_i hp24_0
                refine hK2 (A.add x2_0 1, A.di (fn 83 [[D.i a0_0, D.i a0_1, D.i a0_2], [D.i x2_1]] 0 0)) _ ?_ ?_ ?_
                · subst hA; exact (hV.n24 _ _ _ hI0 _ _ hI1 _ _ hI2 (dt (nf hp6_0)) (dt (nf hp6_1)) (df hp20_0) (dt hp21_0) (dt hp24_0)).1
                · subst hA; exact (hV.n24 _ _ _ hI0 _ _ hI1 _ _ hI2 (dt (nf hp6_0)) (dt (nf hp6_1)) (df hp20_0) (dt hp21_0) (dt hp24_0)).2
                · clear hE hinl hV hK2; cbv; (try (repeat' (first | exact True.intro | rfl | assumption | apply And.intro)))
              · rename_i hp25_0
                subst hA; exact hV.g25 _ _ _ hI0 _ _ hI1 _ _ hI2 (dt (nf hp6_0)) (dt (nf hp6_1)) (df hp20_0) (dt hp21_0) (df hp25_0)
              · rename_i hp26_0
                subst hA; exact hV.g26 _ _ _ hI0 _ _ hI1 _ _ hI2 (dt (nf hp6_0)) (dt (nf hp6_1)) (df hp20_0) (dt hp21_0) (df hp26_0)
              · rename_i hp27_0
                refine hK1 (A.app x1_0 [[D.i x2_0]], A.add x1_1 1) _ ?_ ?_ ?_
                · subst hA; exact (hV.n27 _ _ _ hI0 _ _ hI1 _ _ hI2 (dt (nf hp6_0)) (dt (nf hp6_1)) (df hp20_0) (dt hp21_0) (df hp27_0)).1
                · subst hA; exact (hV.n27 _ _ _ hI0 _ _ hI1 _ _ hI2 (dt (nf hp6_0)) (dt (nf hp6_1)) (df hp20_0) (dt hp21_0) (df hp27_0)).2
                · clear hE hinl hV hK1; cbv; (try (repeat' (first | exact True.intro | rfl | assumption | apply And.intro)))
          · rename_i hp28_0
            subst hA; exact hV.g28 _ _ _ hI0 _ _ hI1 (dt (nf hp6_0)) (dt (nf hp6_1)) (df hp20_0) (df hp28_0)
          · rename_i hp29_0
            subst hA; exact hV.g29 _ _ _ hI0 _ _ hI1 (dt (nf hp6_0)) (dt (nf hp6_1)) (df hp20_0) (df hp29_0)
end HX

namespace HX
open Go Go.Proofs CX
set_option maxHeartbeats 4000000 in
set_option maxRecDepth 100000 in
theorem walk21 {ro A pre fn} (hE : EnvOk ⟨A, (cxE ro), ksF, sigL [], pre, fn⟩) {P : List (List D) → Prop} {res : List (List D) → Nat → Nat → D}
    (hv : ∀ (a0 : Rows) (a1 : Rows), ShR [.int .i64] a0 → ShR [.int .i64] a1 → P [[.l a0], [.l a1]] → ∃ (I0 : Bool → Int → Prop) (m0 : Bool → Int → Nat), V21 a0 a1 (res [[.l a0], [.l a1]]) I0 m0) :
    PureC (cxE ro) 21 ⟨[(false, [.sl [.int .i64]]), (false, [.sl [.int .i64]])], [(false, [.bool])], false⟩ P res := by
  have hA := hE.A
  simp only [] at hA
  have hinl : ∀ f fn, inlL [] f = some fn → (cxE ro).fn f = some fn ∧ (cxE ro).ext f = none := Inls.ok (by repeat (first | exact .nil | refine .cons rfl rfl ?_))
  refine PureC.of_vc hE hinl 6 (f := 21) (fn := Try.f21) ⟨rfl, rfl⟩ ?_
  intro a0 ha0 a1 ha1 hP
  obtain ⟨R, hR⟩ : ∃ R, res [[.l a0], [.l a1]] = R := ⟨_, rfl⟩
  rw [hR]
  obtain ⟨I0, m0, hV⟩ := hv a0 a1 ha0 ha1 hP
  rw [hR] at hV
  clear hR hP hv
  cbv
  repeat' (first | (refine Br.mk (fun _ => ?_) (fun _ => ?_) <;> cbv) | (refine NilB.mk (fun _ => ?_) ?_ <;> cbv) | refine And.intro ?_ ?_ | exact True.intro)
  · rename_i hp0_0
    subst hA; exact hV.g0 (df (nt hp0_0))
  · rename_i hp1_0
    refine Leaf.gen fun σz hσz => ?_
    refine loopB hE hinl 6 [] [] [] (fun x : Bool × Int => [.b x.1, .i x.2]) (fun x => I0 x.1 x.2) (fun x => m0 x.1 x.2) (false, 0) (by subst hA; exact hV.i0 (dt (nf hp1_0))) ?_ ?_ <;> subst hσz
    · clear hE hinl hV; cbv; (try (repeat' (first | exact True.intro | rfl | assumption | apply And.intro)))
    · intro ⟨x0_0, x0_1⟩ hI0 K0 hK0
      cbv
      repeat' (first | (refine Br.mk (fun _ => ?_) (fun _ => ?_) <;> cbv) | (refine NilB.mk (fun _ => ?_) ?_ <;> cbv) | refine And.intro ?_ ?_ | exact True.intro)
      · rename_i hp2_0
        subst hA; exact hV.g2 _ _ hI0 (dt (nf hp1_0)) (dt hp2_0)
      · rename_i hp3_0
        subst hA; exact hV.g3 _ _ hI0 (dt (nf hp1_0)) (dt hp3_0)
      · rename_i hp4_0
        subst hA; exact hV.g4 _ _ hI0 (dt (nf hp1_0)) (dt hp4_0)
      · rename_i hp5_0
        subst hA; exact hV.g2 _ _ hI0 (dt (nf hp1_0)) (dt hp5_0)
      · rename_i hp6_0
        subst hA; exact hV.g6 _ _ hI0 (dt (nf hp1_0)) (dt hp6_0)
      · rename_i hp7_0
        subst hA; exact hV.g7 _ _ hI0 (dt (nf hp1_0)) (dt hp7_0)
      · rename_i hp8_0 hp8_1
        subst hA; exact hV.g8 _ _ hI0 (dt (nf hp1_0)) (dt hp8_0) (df (nt hp8_1))
      · rename_i hp9_0 hp9_1
        subst hA; exact hV.g9 _ _ hI0 (dt (nf hp1_0)) (dt hp9_0) (dt (nf hp9_1))
      · rename_i hp10_0 hp10_1
        refine hK0 (x0_0, A.add x0_1 1) _ ?_ ?_ ?_
        · subst hA; exact (hV.n10 _ _ hI0 (dt (nf hp1_0)) (dt hp10_0) (dt (nf hp10_1))).1
        · subst hA; exact (hV.n10 _ _ hI0 (dt (nf hp1_0)) (dt hp10_0) (dt (nf hp10_1))).2
        · clear hE hinl hV hK0; cbv; (try (repeat' (first | exact True.intro | rfl | assumption | apply And.intro)))
      · rename_i hp11_0
        subst hA; exact hV.g11 _ _ hI0 (dt (nf hp1_0)) (df hp11_0)
end HX

namespace HX
open Go Go.Proofs CX
def r17 : List (List D) → Nat → Nat → D
  | [[.i a, .i b, .i c]], _, _ => .i (chkS a b c)
  | _, _, _ => .nil
noncomputable def r39 : List (List D) → Nat → Nat → D
  | [[.i a, .i b, .i c], [.l l]], 0, _ => .l (brL a b c l)
  | [[.i a, .i b, .i c], [.l l]], _, _ => .i (brE a b c l)
  | _, _, _ => .nil
def p21 : List (List D) → Prop
  | [[.l a], [.l b]] => a = b
  | _ => False
abbrev tru : List (List D) → Prop := fun _ => True
noncomputable def c17 : Ctr := ⟨17, ⟨[(true, [.int .i64, .int .i64, .int .i64])], [(false, [.int .i64])], false⟩, tru, r17⟩
noncomputable def c18 : Ctr := ⟨18, ⟨[(true, [.int .i64, .int .i64, .int .i64])], [(false, [.int .i64])], false⟩, tru, r17⟩
noncomputable def c39 : Ctr := ⟨39, ⟨[(true, [.int .i64, .int .i64, .int .i64]), (false, [.sl [.int .i64]])], [(false, [.sl [.int .i64]]), (false, [.int .i64])], false⟩, tru, r39⟩
noncomputable def c83 : Ctr := ⟨83, ⟨[(true, [.int .i64, .int .i64, .int .i64]), (false, [.int .i64])], [(false, [.int .i64])], false⟩, p83, r83⟩
noncomputable def c82 : Ctr := ⟨82, ⟨[(true, [.int .i64, .int .i64, .int .i64]), (false, [.sl [.int .i64]]), (false, [.int .i64])], [(false, [.int .i64])], false⟩, p82 100, r82⟩
noncomputable def c40 : Ctr := ⟨40, ⟨[(true, [.int .i64, .int .i64, .int .i64]), (false, [.sl [.int .i64]])], [(false, [.sl [.int .i64]]), (false, [.int .i64])], false⟩, tru, r39⟩
noncomputable def c21 : Ctr := ⟨21, ⟨[(false, [.sl [.int .i64]]), (false, [.sl [.int .i64]])], [(false, [.bool])], false⟩, p21, (fun _ _ _ => .b true)⟩
noncomputable def c13 : Ctr := ⟨13, ⟨[], [(false, [.bool])], false⟩, tru, (fun _ _ _ => .b true)⟩
section
variable (ro : Addr → Option V)
theorem k17 : PureC (cxE ro) c17.f c17.sg c17.pre c17.res := walk17 (envL (l := []) .nil) fun _ _ _ _ => law17 rfl
theorem k18 : PureC (cxE ro) c18.f c18.sg c18.pre c18.res := walk18 (envL (l := []) .nil) fun _ _ _ _ => law18 rfl
theorem k39 : PureC (cxE ro) c39.f c39.sg c39.pre c39.res := walk39 (envL (l := [c17]) (.cons (k17 ro) .nil)) fun _ _ _ _ _ _ => ⟨_, _, _, _, law39 (fun _ => trivial) (fun _ _ _ => rfl) rfl rfl⟩
theorem k83 : PureC (cxE ro) c83.f c83.sg c83.pre c83.res := walk83 (envL (l := []) .nil) fun _ _ _ _ h => law83 h rfl
theorem k82 : PureC (cxE ro) c82.f c82.sg c82.pre c82.res := rec82 ro 100
theorem k40 : PureC (cxE ro) c40.f c40.sg c40.pre c40.res := walk40 (envL (l := [c18, c82, c83]) (.cons (k18 ro) (.cons (k82 ro) (.cons (k83 ro) .nil)))) fun _ _ _ _ _ _ => ⟨_, _, _, _, _, _, law40 (fun _ => trivial) (fun _ _ _ => rfl) (fun _ _ _ _ h1 h2 h3 => ⟨h1, h2, h3⟩) (fun _ _ _ _ => rfl) (fun _ _ _ _ _ h => ⟨h, by obtain ⟨w1, w2, h⟩ := h; have := wh_bd w1.1 w1.2 w2.1 w2.2; omega⟩) (fun _ _ _ _ _ => rfl) rfl rfl⟩
theorem k21 : PureC (cxE ro) c21.f c21.sg c21.pre c21.res := walk21 (envL (l := []) .nil) fun _ _ ha _ h => ⟨_, _, law21 ha.2 h rfl⟩
theorem k13 : PureC (cxE ro) c13.f c13.sg c13.pre c13.res := works_pure
end
noncomputable def l7 : List Ctr := [c13, c39, c40, c21]
theorem k_l7 (ro : Addr → Option V) : Ctrs (cxE ro) l7 := (.cons (k13 ro) (.cons (k39 ro) (.cons (k40 ro) (.cons (k21 ro) .nil))))
end HX

namespace HX
open Go Go.Proofs CX
theorem law7' {a0_0 a0_1 a0_2 : Int} {a1 : Rows} : V7 (preOf l7) (resOf l7) a0_0 a0_1 a0_2 a1 (fun _ _ => .b true) := by
  refine law7 trivial rfl (fun _ => trivial) (fun _ => trivial) (fun _ => rfl) (fun _ => rfl) (fun _ => rfl) rfl
end HX

namespace Go.Proofs.Ytcpndododgchbaa.meshBarriers
open Go.ChangeShapes Go.WideShapes Go.ChangeAt Go.RowKit HX

def ps : List (Bool × List Kd) := [(true, [.int .i64, .int .i64, .int .i64]), (false, [.sl [.int .i64]])]
theorem law (ro : Addr → Option CX.V) : PureC0 (cxE ro) 7 ⟨ps, [(false, [.bool])], false⟩ (RngAll ps) trueRes := walk7 (envL (l := l7) (k_l7 ro)) fun _ _ _ _ _ _ => law7'

theorem lenN {α β : Type} {F : List α → β} {G : List α → β} (h : ∀ a b, F [a, b] = G [a, b]) : ∀ ds : List α, ds.length = 2 → F ds = G ds
  | [a, b], _ => h a b

set_option maxRecDepth 100000 in
set_option maxHeartbeats 400000 in
theorem lifted (os : Os) (started : os.Started) (H : Type) (enc : TypeId × Value → H) :
    ReturnsInHanded {} Try.checked os 7 .any (Rows.meshBarriersSpec.pre6 enc Try.prog Try.f7 Rows.meshBarriersRow.domain false) (Rows.meshBarriersSpec.post enc Try.prog Try.f7 false true false false) := by
  refine returnsInHanded_of_change (C := Try.checked) own started (by kernel_rfl) Try.func7
    (ChangeSpec.witness6 (enc := enc) (C := Try.checked) false ⟨#[], #[.agg #[.int .i64 0, .int .i64 0, .int .i64 0], .slice none 0 0], []⟩ 8 (by kernel_rfl) (by kernel_rfl) (by kernel_rfl) (by kernel_rfl)) ?_
  intro W base args ds gs before hval hW _ _
  exact said (f := Try.f7) (s := Rows.meshBarriersSpec) (n := 8) (tb := 4) cxE_ok law (by kernel_rfl) laid (by kernel_rfl) rfl Try.underlying4
    (lenN (F := Rows.meshBarriersSpec.fn H) (G := fun ds => ⟨[.lit (.bool true)], ds, []⟩) fun _ _ => rfl) rfl W base args ds gs before hval hW

theorem holds : Rows.MeshBarriersSaid :=
  OpenClaim.holds_of_wide 7 Try.f7 rfl rfl rfl rfl rfl rfl rfl ⟨rfl, rfl, rfl, rfl, rfl⟩ rfl rfl rfl rfl rfl (by kernel_rfl) Try.func7 (by kernel_rfl)
    (of_decide_eq_true (by kernel_rfl)) (by unfold Func.isWrapper; first | (rw [if_pos (by decide +kernel)]; kernel_rfl) | (rw [if_neg (by decide +kernel)]; exact ⟨rfl, rfl⟩))
    (fun os started H enc _ => lifted os started H enc)
end Go.Proofs.Ytcpndododgchbaa.meshBarriers
