/-
  Texts of the executors: V29, V68, V63, V65, V105, V69, V67, V74, V75, V79, V80, V85, V138, LvP, LvB, DeP, DeQ, DeR, DeT, DeU, DeS, V71, V106, DeY, DeC, DeD, DeE, V30, DeW, V28, DeX, W105, W65, W63.
-/
import Derived.Test.YtlgaegbommfdmaaGreatCodeDecides6
set_option linter.all false
namespace HX
open Go Go.Proofs CX
structure V29 (pre : Nat → List (List D) → Prop) (fn : Nat → List (List D) → Nat → Nat → D) (a0 : Rows) (a1 : Rows) (R : Nat → Nat → D) (I0 : Rows → Int → Prop) (m0 : Rows → Int → Nat) (I1 : Rows → Int → Rows → Int → Prop) (m1 : Rows → Int → Rows → Int → Nat) : Prop where
  g0 : pre 63 [[D.i (a1.length : Int)], [D.l a0], [D.nil], [D.nil]]
  g1 : (¬ (D.int (fn 63 [[D.i (a1.length : Int)], [D.l a0], [D.nil], [D.nil]] 0 0)) = 0) → R 0 0 = D.l []
  g2 : (¬ (D.int (fn 63 [[D.i (a1.length : Int)], [D.l a0], [D.nil], [D.nil]] 0 0)) = 0) → R 1 0 = D.i (D.int (fn 63 [[D.i (a1.length : Int)], [D.l a0], [D.nil], [D.nil]] 0 0))
  i0 : ((D.int (fn 63 [[D.i (a1.length : Int)], [D.l a0], [D.nil], [D.nil]] 0 0)) = 0) → I0 a1 0
  g4 : ∀ x0_0 x0_1, I0 x0_0 x0_1 → ((D.int (fn 63 [[D.i (a1.length : Int)], [D.l a0], [D.nil], [D.nil]] 0 0)) = 0) → (x0_1 < (a0.length : Int)) → 0 ≤ x0_1
  g5 : ∀ x0_0 x0_1, I0 x0_0 x0_1 → ((D.int (fn 63 [[D.i (a1.length : Int)], [D.l a0], [D.nil], [D.nil]] 0 0)) = 0) → (x0_1 < (a0.length : Int)) → x0_1 < (a0.length : Int)
  i1 : ∀ x0_0 x0_1, I0 x0_0 x0_1 → ((D.int (fn 63 [[D.i (a1.length : Int)], [D.l a0], [D.nil], [D.nil]] 0 0)) = 0) → (x0_1 < (a0.length : Int)) → I1 x0_0 x0_1 [] 0
  g7 : ∀ x0_0 x0_1, I0 x0_0 x0_1 → ∀ x1_0 x1_1, I1 x0_0 x0_1 x1_0 x1_1 → ((D.int (fn 63 [[D.i (a1.length : Int)], [D.l a0], [D.nil], [D.nil]] 0 0)) = 0) → (x0_1 < (a0.length : Int)) → (x1_1 < ((((D.rows (gt a0 x0_1.toNat 0))).length : Int))) → 0 ≤ x1_1
  g8 : ∀ x0_0 x0_1, I0 x0_0 x0_1 → ∀ x1_0 x1_1, I1 x0_0 x0_1 x1_0 x1_1 → ((D.int (fn 63 [[D.i (a1.length : Int)], [D.l a0], [D.nil], [D.nil]] 0 0)) = 0) → (x0_1 < (a0.length : Int)) → (x1_1 < ((((D.rows (gt a0 x0_1.toNat 0))).length : Int))) → x1_1 < ((((D.rows (gt a0 x0_1.toNat 0))).length : Int))
  g9 : ∀ x0_0 x0_1, I0 x0_0 x0_1 → ∀ x1_0 x1_1, I1 x0_0 x0_1 x1_0 x1_1 → ((D.int (fn 63 [[D.i (a1.length : Int)], [D.l a0], [D.nil], [D.nil]] 0 0)) = 0) → (x0_1 < (a0.length : Int)) → (x1_1 < ((((D.rows (gt a0 x0_1.toNat 0))).length : Int))) → pre 67 [[D.l (D.rows (gt (D.rows (gt a0 x0_1.toNat 0)) x1_1.toNat 0))], [D.l x0_0], [D.nil]]
  g11 : ∀ x0_0 x0_1, I0 x0_0 x0_1 → ∀ x1_0 x1_1, I1 x0_0 x0_1 x1_0 x1_1 → ((D.int (fn 63 [[D.i (a1.length : Int)], [D.l a0], [D.nil], [D.nil]] 0 0)) = 0) → (x0_1 < (a0.length : Int)) → (x1_1 < ((((D.rows (gt a0 x0_1.toNat 0))).length : Int))) → x1_1 < ((((D.rows (gt a0 x0_1.toNat 1))).length : Int))
  g12 : ∀ x0_0 x0_1, I0 x0_0 x0_1 → ∀ x1_0 x1_1, I1 x0_0 x0_1 x1_0 x1_1 → ((D.int (fn 63 [[D.i (a1.length : Int)], [D.l a0], [D.nil], [D.nil]] 0 0)) = 0) → (x0_1 < (a0.length : Int)) → (x1_1 < ((((D.rows (gt a0 x0_1.toNat 0))).length : Int))) → (x1_0.length + (List.length ([[D.b (decide ((D.int (gt (D.rows (gt a0 x0_1.toNat 1)) x1_1.toNat 0)) ≤ (D.int (fn 67 [[D.l (D.rows (gt (D.rows (gt a0 x0_1.toNat 0)) x1_1.toNat 0))], [D.l x0_0], [D.nil]] 0 0))))]] : Rows))) * 1 ≤ 4294967296 ∧ (x1_0.length + (List.length ([[D.b (decide ((D.int (gt (D.rows (gt a0 x0_1.toNat 1)) x1_1.toNat 0)) ≤ (D.int (fn 67 [[D.l (D.rows (gt (D.rows (gt a0 x0_1.toNat 0)) x1_1.toNat 0))], [D.l x0_0], [D.nil]] 0 0))))]] : Rows))) ≤ 4294967296
  g13 : ∀ x0_0 x0_1, I0 x0_0 x0_1 → ∀ x1_0 x1_1, I1 x0_0 x0_1 x1_0 x1_1 → ((D.int (fn 63 [[D.i (a1.length : Int)], [D.l a0], [D.nil], [D.nil]] 0 0)) = 0) → (x0_1 < (a0.length : Int)) → (x1_1 < ((((D.rows (gt a0 x0_1.toNat 0))).length : Int))) → -9223372036854775808 ≤ (x1_1 + 1) ∧ (x1_1 + 1) ≤ 9223372036854775807
  n14 : ∀ x0_0 x0_1, I0 x0_0 x0_1 → ∀ x1_0 x1_1, I1 x0_0 x0_1 x1_0 x1_1 → ((D.int (fn 63 [[D.i (a1.length : Int)], [D.l a0], [D.nil], [D.nil]] 0 0)) = 0) → (x0_1 < (a0.length : Int)) → (x1_1 < ((((D.rows (gt a0 x0_1.toNat 0))).length : Int))) → I1 x0_0 x0_1 (x1_0 ++ [[D.b (decide ((D.int (gt (D.rows (gt a0 x0_1.toNat 1)) x1_1.toNat 0)) ≤ (D.int (fn 67 [[D.l (D.rows (gt (D.rows (gt a0 x0_1.toNat 0)) x1_1.toNat 0))], [D.l x0_0], [D.nil]] 0 0))))]]) (x1_1 + 1) ∧ m1 x0_0 x0_1 (x1_0 ++ [[D.b (decide ((D.int (gt (D.rows (gt a0 x0_1.toNat 1)) x1_1.toNat 0)) ≤ (D.int (fn 67 [[D.l (D.rows (gt (D.rows (gt a0 x0_1.toNat 0)) x1_1.toNat 0))], [D.l x0_0], [D.nil]] 0 0))))]]) (x1_1 + 1) < m1 x0_0 x0_1 x1_0 x1_1
  g15 : ∀ x0_0 x0_1, I0 x0_0 x0_1 → ∀ x1_0 x1_1, I1 x0_0 x0_1 x1_0 x1_1 → ((D.int (fn 63 [[D.i (a1.length : Int)], [D.l a0], [D.nil], [D.nil]] 0 0)) = 0) → (x0_1 < (a0.length : Int)) → (¬ x1_1 < ((((D.rows (gt a0 x0_1.toNat 0))).length : Int))) → -9223372036854775808 ≤ (x0_1 + 1) ∧ (x0_1 + 1) ≤ 9223372036854775807
  n16 : ∀ x0_0 x0_1, I0 x0_0 x0_1 → ∀ x1_0 x1_1, I1 x0_0 x0_1 x1_0 x1_1 → ((D.int (fn 63 [[D.i (a1.length : Int)], [D.l a0], [D.nil], [D.nil]] 0 0)) = 0) → (x0_1 < (a0.length : Int)) → (¬ x1_1 < ((((D.rows (gt a0 x0_1.toNat 0))).length : Int))) → I0 x1_0 (x0_1 + 1) ∧ m0 x1_0 (x0_1 + 1) < m0 x0_0 x0_1
  g17 : ∀ x0_0 x0_1, I0 x0_0 x0_1 → ((D.int (fn 63 [[D.i (a1.length : Int)], [D.l a0], [D.nil], [D.nil]] 0 0)) = 0) → (¬ x0_1 < (a0.length : Int)) → R 0 0 = D.l x0_0
  g18 : ∀ x0_0 x0_1, I0 x0_0 x0_1 → ((D.int (fn 63 [[D.i (a1.length : Int)], [D.l a0], [D.nil], [D.nil]] 0 0)) = 0) → (¬ x0_1 < (a0.length : Int)) → R 1 0 = D.i 0
end HX

namespace HX
open Go Go.Proofs CX
structure V68 (a0 : Int) (a1 : Rows) (R : Nat → Nat → D) (I0 : Int → Int → Int → Prop) (m0 : Int → Int → Int → Nat) (I1 : Int → Int → Int → Int → Int → Prop) (m1 : Int → Int → Int → Int → Int → Nat) (I2 : Int → Int → Int → Int → Int → Int → Int → Prop) (m2 : Int → Int → Int → Int → Int → Int → Int → Nat) (I3 : Int → Int → Int → Int → Int → Int → Int → Int → Int → Prop) (m3 : Int → Int → Int → Int → Int → Int → Int → Int → Int → Nat) : Prop where
  g0 : (1 ≤ a0) → (¬ a0 ≤ 30) → R 0 0 = D.i 3
  g1 : (1 ≤ a0) → (a0 ≤ 30) → (1 ≤ (a1.length : Int)) → (¬ (a1.length : Int) ≤ 8) → R 0 0 = D.i 9
  i0 : (1 ≤ a0) → (a0 ≤ 30) → (1 ≤ (a1.length : Int)) → ((a1.length : Int) ≤ 8) → I0 0 a0 0
  g3 : ∀ x0_0 x0_1 x0_2, I0 x0_0 x0_1 x0_2 → (1 ≤ a0) → (a0 ≤ 30) → (1 ≤ (a1.length : Int)) → ((a1.length : Int) ≤ 8) → (x0_2 < (a1.length : Int)) → 0 ≤ x0_2
  g4 : ∀ x0_0 x0_1 x0_2, I0 x0_0 x0_1 x0_2 → (1 ≤ a0) → (a0 ≤ 30) → (1 ≤ (a1.length : Int)) → ((a1.length : Int) ≤ 8) → (x0_2 < (a1.length : Int)) → x0_2 < (a1.length : Int)
  g5 : ∀ x0_0 x0_1 x0_2, I0 x0_0 x0_1 x0_2 → (1 ≤ a0) → (a0 ≤ 30) → (1 ≤ (a1.length : Int)) → ((a1.length : Int) ≤ 8) → (x0_2 < (a1.length : Int)) → (1 ≤ ((((D.rows (gt a1 x0_2.toNat 0))).length : Int))) → (¬ ((((D.rows (gt a1 x0_2.toNat 0))).length : Int)) ≤ 30) → R 0 0 = D.i 3
  g6 : ∀ x0_0 x0_1 x0_2, I0 x0_0 x0_1 x0_2 → (1 ≤ a0) → (a0 ≤ 30) → (1 ≤ (a1.length : Int)) → ((a1.length : Int) ≤ 8) → (x0_2 < (a1.length : Int)) → (1 ≤ ((((D.rows (gt a1 x0_2.toNat 0))).length : Int))) → (((((D.rows (gt a1 x0_2.toNat 0))).length : Int)) ≤ 30) → 0 ≤ x0_2
  g7 : ∀ x0_0 x0_1 x0_2, I0 x0_0 x0_1 x0_2 → (1 ≤ a0) → (a0 ≤ 30) → (1 ≤ (a1.length : Int)) → ((a1.length : Int) ≤ 8) → (x0_2 < (a1.length : Int)) → (1 ≤ ((((D.rows (gt a1 x0_2.toNat 0))).length : Int))) → (((((D.rows (gt a1 x0_2.toNat 0))).length : Int)) ≤ 30) → x0_2 < (a1.length : Int)
  g8 : ∀ x0_0 x0_1 x0_2, I0 x0_0 x0_1 x0_2 → (1 ≤ a0) → (a0 ≤ 30) → (1 ≤ (a1.length : Int)) → ((a1.length : Int) ≤ 8) → (x0_2 < (a1.length : Int)) → (1 ≤ ((((D.rows (gt a1 x0_2.toNat 0))).length : Int))) → (((((D.rows (gt a1 x0_2.toNat 0))).length : Int)) ≤ 30) → (¬ ((((D.rows (gt a1 x0_2.toNat 1))).length : Int)) = ((((D.rows (gt a1 x0_2.toNat 0))).length : Int))) → R 0 0 = D.i 13
  i1 : ∀ x0_0 x0_1 x0_2, I0 x0_0 x0_1 x0_2 → (1 ≤ a0) → (a0 ≤ 30) → (1 ≤ (a1.length : Int)) → ((a1.length : Int) ≤ 8) → (x0_2 < (a1.length : Int)) → (1 ≤ ((((D.rows (gt a1 x0_2.toNat 0))).length : Int))) → (((((D.rows (gt a1 x0_2.toNat 0))).length : Int)) ≤ 30) → (((((D.rows (gt a1 x0_2.toNat 1))).length : Int)) = ((((D.rows (gt a1 x0_2.toNat 0))).length : Int))) → I1 x0_0 x0_1 x0_2 x0_0 0
  g10 : ∀ x0_0 x0_1 x0_2, I0 x0_0 x0_1 x0_2 → ∀ x1_0 x1_1, I1 x0_0 x0_1 x0_2 x1_0 x1_1 → (1 ≤ a0) → (a0 ≤ 30) → (1 ≤ (a1.length : Int)) → ((a1.length : Int) ≤ 8) → (x0_2 < (a1.length : Int)) → (1 ≤ ((((D.rows (gt a1 x0_2.toNat 0))).length : Int))) → (((((D.rows (gt a1 x0_2.toNat 0))).length : Int)) ≤ 30) → (((((D.rows (gt a1 x0_2.toNat 1))).length : Int)) = ((((D.rows (gt a1 x0_2.toNat 0))).length : Int))) → (x1_1 < ((((D.rows (gt a1 x0_2.toNat 0))).length : Int))) → 0 ≤ x0_2
  g11 : ∀ x0_0 x0_1 x0_2, I0 x0_0 x0_1 x0_2 → ∀ x1_0 x1_1, I1 x0_0 x0_1 x0_2 x1_0 x1_1 → (1 ≤ a0) → (a0 ≤ 30) → (1 ≤ (a1.length : Int)) → ((a1.length : Int) ≤ 8) → (x0_2 < (a1.length : Int)) → (1 ≤ ((((D.rows (gt a1 x0_2.toNat 0))).length : Int))) → (((((D.rows (gt a1 x0_2.toNat 0))).length : Int)) ≤ 30) → (((((D.rows (gt a1 x0_2.toNat 1))).length : Int)) = ((((D.rows (gt a1 x0_2.toNat 0))).length : Int))) → (x1_1 < ((((D.rows (gt a1 x0_2.toNat 0))).length : Int))) → x0_2 < (a1.length : Int)
  g12 : ∀ x0_0 x0_1 x0_2, I0 x0_0 x0_1 x0_2 → ∀ x1_0 x1_1, I1 x0_0 x0_1 x0_2 x1_0 x1_1 → (1 ≤ a0) → (a0 ≤ 30) → (1 ≤ (a1.length : Int)) → ((a1.length : Int) ≤ 8) → (x0_2 < (a1.length : Int)) → (1 ≤ ((((D.rows (gt a1 x0_2.toNat 0))).length : Int))) → (((((D.rows (gt a1 x0_2.toNat 0))).length : Int)) ≤ 30) → (((((D.rows (gt a1 x0_2.toNat 1))).length : Int)) = ((((D.rows (gt a1 x0_2.toNat 0))).length : Int))) → (x1_1 < ((((D.rows (gt a1 x0_2.toNat 0))).length : Int))) → 0 ≤ x1_1
  g13 : ∀ x0_0 x0_1 x0_2, I0 x0_0 x0_1 x0_2 → ∀ x1_0 x1_1, I1 x0_0 x0_1 x0_2 x1_0 x1_1 → (1 ≤ a0) → (a0 ≤ 30) → (1 ≤ (a1.length : Int)) → ((a1.length : Int) ≤ 8) → (x0_2 < (a1.length : Int)) → (1 ≤ ((((D.rows (gt a1 x0_2.toNat 0))).length : Int))) → (((((D.rows (gt a1 x0_2.toNat 0))).length : Int)) ≤ 30) → (((((D.rows (gt a1 x0_2.toNat 1))).length : Int)) = ((((D.rows (gt a1 x0_2.toNat 0))).length : Int))) → (x1_1 < ((((D.rows (gt a1 x0_2.toNat 0))).length : Int))) → x1_1 < ((((D.rows (gt a1 x0_2.toNat 0))).length : Int))
  g14 : ∀ x0_0 x0_1 x0_2, I0 x0_0 x0_1 x0_2 → ∀ x1_0 x1_1, I1 x0_0 x0_1 x0_2 x1_0 x1_1 → (1 ≤ a0) → (a0 ≤ 30) → (1 ≤ (a1.length : Int)) → ((a1.length : Int) ≤ 8) → (x0_2 < (a1.length : Int)) → (1 ≤ ((((D.rows (gt a1 x0_2.toNat 0))).length : Int))) → (((((D.rows (gt a1 x0_2.toNat 0))).length : Int)) ≤ 30) → (((((D.rows (gt a1 x0_2.toNat 1))).length : Int)) = ((((D.rows (gt a1 x0_2.toNat 0))).length : Int))) → (x1_1 < ((((D.rows (gt a1 x0_2.toNat 0))).length : Int))) → (¬ ((((D.rows (gt (D.rows (gt a1 x0_2.toNat 0)) x1_1.toNat 0))).length : Int)) = x0_1) → R 0 0 = D.i 13
  g15 : ∀ x0_0 x0_1 x0_2, I0 x0_0 x0_1 x0_2 → ∀ x1_0 x1_1, I1 x0_0 x0_1 x0_2 x1_0 x1_1 → (1 ≤ a0) → (a0 ≤ 30) → (1 ≤ (a1.length : Int)) → ((a1.length : Int) ≤ 8) → (x0_2 < (a1.length : Int)) → (1 ≤ ((((D.rows (gt a1 x0_2.toNat 0))).length : Int))) → (((((D.rows (gt a1 x0_2.toNat 0))).length : Int)) ≤ 30) → (((((D.rows (gt a1 x0_2.toNat 1))).length : Int)) = ((((D.rows (gt a1 x0_2.toNat 0))).length : Int))) → (x1_1 < ((((D.rows (gt a1 x0_2.toNat 0))).length : Int))) → (((((D.rows (gt (D.rows (gt a1 x0_2.toNat 0)) x1_1.toNat 0))).length : Int)) = x0_1) → -9223372036854775808 ≤ (x1_1 + 1) ∧ (x1_1 + 1) ≤ 9223372036854775807
  n16 : ∀ x0_0 x0_1 x0_2, I0 x0_0 x0_1 x0_2 → ∀ x1_0 x1_1, I1 x0_0 x0_1 x0_2 x1_0 x1_1 → (1 ≤ a0) → (a0 ≤ 30) → (1 ≤ (a1.length : Int)) → ((a1.length : Int) ≤ 8) → (x0_2 < (a1.length : Int)) → (1 ≤ ((((D.rows (gt a1 x0_2.toNat 0))).length : Int))) → (((((D.rows (gt a1 x0_2.toNat 0))).length : Int)) ≤ 30) → (((((D.rows (gt a1 x0_2.toNat 1))).length : Int)) = ((((D.rows (gt a1 x0_2.toNat 0))).length : Int))) → (x1_1 < ((((D.rows (gt a1 x0_2.toNat 0))).length : Int))) → (((((D.rows (gt (D.rows (gt a1 x0_2.toNat 0)) x1_1.toNat 0))).length : Int)) = x0_1) → I1 x0_0 x0_1 x0_2 x1_0 (x1_1 + 1) ∧ m1 x0_0 x0_1 x0_2 x1_0 (x1_1 + 1) < m1 x0_0 x0_1 x0_2 x1_0 x1_1
  i2 : ∀ x0_0 x0_1 x0_2, I0 x0_0 x0_1 x0_2 → ∀ x1_0 x1_1, I1 x0_0 x0_1 x0_2 x1_0 x1_1 → (1 ≤ a0) → (a0 ≤ 30) → (1 ≤ (a1.length : Int)) → ((a1.length : Int) ≤ 8) → (x0_2 < (a1.length : Int)) → (1 ≤ ((((D.rows (gt a1 x0_2.toNat 0))).length : Int))) → (((((D.rows (gt a1 x0_2.toNat 0))).length : Int)) ≤ 30) → (((((D.rows (gt a1 x0_2.toNat 1))).length : Int)) = ((((D.rows (gt a1 x0_2.toNat 0))).length : Int))) → (¬ x1_1 < ((((D.rows (gt a1 x0_2.toNat 0))).length : Int))) → I2 x0_0 x0_1 x0_2 x1_0 x1_1 x1_0 0
  i3 : ∀ x0_0 x0_1 x0_2, I0 x0_0 x0_1 x0_2 → ∀ x1_0 x1_1, I1 x0_0 x0_1 x0_2 x1_0 x1_1 → ∀ x2_0 x2_1, I2 x0_0 x0_1 x0_2 x1_0 x1_1 x2_0 x2_1 → (1 ≤ a0) → (a0 ≤ 30) → (1 ≤ (a1.length : Int)) → ((a1.length : Int) ≤ 8) → (x0_2 < (a1.length : Int)) → (1 ≤ ((((D.rows (gt a1 x0_2.toNat 0))).length : Int))) → (((((D.rows (gt a1 x0_2.toNat 0))).length : Int)) ≤ 30) → (((((D.rows (gt a1 x0_2.toNat 1))).length : Int)) = ((((D.rows (gt a1 x0_2.toNat 0))).length : Int))) → (¬ x1_1 < ((((D.rows (gt a1 x0_2.toNat 0))).length : Int))) → (x2_1 < ((((D.rows (gt a1 x0_2.toNat 0))).length : Int))) → I3 x0_0 x0_1 x0_2 x1_0 x1_1 x2_0 x2_1 x2_0 0
  g19 : ∀ x0_0 x0_1 x0_2, I0 x0_0 x0_1 x0_2 → ∀ x1_0 x1_1, I1 x0_0 x0_1 x0_2 x1_0 x1_1 → ∀ x2_0 x2_1, I2 x0_0 x0_1 x0_2 x1_0 x1_1 x2_0 x2_1 → ∀ x3_0 x3_1, I3 x0_0 x0_1 x0_2 x1_0 x1_1 x2_0 x2_1 x3_0 x3_1 → (1 ≤ a0) → (a0 ≤ 30) → (1 ≤ (a1.length : Int)) → ((a1.length : Int) ≤ 8) → (x0_2 < (a1.length : Int)) → (1 ≤ ((((D.rows (gt a1 x0_2.toNat 0))).length : Int))) → (((((D.rows (gt a1 x0_2.toNat 0))).length : Int)) ≤ 30) → (((((D.rows (gt a1 x0_2.toNat 1))).length : Int)) = ((((D.rows (gt a1 x0_2.toNat 0))).length : Int))) → (¬ x1_1 < ((((D.rows (gt a1 x0_2.toNat 0))).length : Int))) → (x2_1 < ((((D.rows (gt a1 x0_2.toNat 0))).length : Int))) → (x3_1 < x0_1) → 0 ≤ x0_2
  g20 : ∀ x0_0 x0_1 x0_2, I0 x0_0 x0_1 x0_2 → ∀ x1_0 x1_1, I1 x0_0 x0_1 x0_2 x1_0 x1_1 → ∀ x2_0 x2_1, I2 x0_0 x0_1 x0_2 x1_0 x1_1 x2_0 x2_1 → ∀ x3_0 x3_1, I3 x0_0 x0_1 x0_2 x1_0 x1_1 x2_0 x2_1 x3_0 x3_1 → (1 ≤ a0) → (a0 ≤ 30) → (1 ≤ (a1.length : Int)) → ((a1.length : Int) ≤ 8) → (x0_2 < (a1.length : Int)) → (1 ≤ ((((D.rows (gt a1 x0_2.toNat 0))).length : Int))) → (((((D.rows (gt a1 x0_2.toNat 0))).length : Int)) ≤ 30) → (((((D.rows (gt a1 x0_2.toNat 1))).length : Int)) = ((((D.rows (gt a1 x0_2.toNat 0))).length : Int))) → (¬ x1_1 < ((((D.rows (gt a1 x0_2.toNat 0))).length : Int))) → (x2_1 < ((((D.rows (gt a1 x0_2.toNat 0))).length : Int))) → (x3_1 < x0_1) → x0_2 < (a1.length : Int)
  g21 : ∀ x0_0 x0_1 x0_2, I0 x0_0 x0_1 x0_2 → ∀ x1_0 x1_1, I1 x0_0 x0_1 x0_2 x1_0 x1_1 → ∀ x2_0 x2_1, I2 x0_0 x0_1 x0_2 x1_0 x1_1 x2_0 x2_1 → ∀ x3_0 x3_1, I3 x0_0 x0_1 x0_2 x1_0 x1_1 x2_0 x2_1 x3_0 x3_1 → (1 ≤ a0) → (a0 ≤ 30) → (1 ≤ (a1.length : Int)) → ((a1.length : Int) ≤ 8) → (x0_2 < (a1.length : Int)) → (1 ≤ ((((D.rows (gt a1 x0_2.toNat 0))).length : Int))) → (((((D.rows (gt a1 x0_2.toNat 0))).length : Int)) ≤ 30) → (((((D.rows (gt a1 x0_2.toNat 1))).length : Int)) = ((((D.rows (gt a1 x0_2.toNat 0))).length : Int))) → (¬ x1_1 < ((((D.rows (gt a1 x0_2.toNat 0))).length : Int))) → (x2_1 < ((((D.rows (gt a1 x0_2.toNat 0))).length : Int))) → (x3_1 < x0_1) → 0 ≤ x2_1
  g22 : ∀ x0_0 x0_1 x0_2, I0 x0_0 x0_1 x0_2 → ∀ x1_0 x1_1, I1 x0_0 x0_1 x0_2 x1_0 x1_1 → ∀ x2_0 x2_1, I2 x0_0 x0_1 x0_2 x1_0 x1_1 x2_0 x2_1 → ∀ x3_0 x3_1, I3 x0_0 x0_1 x0_2 x1_0 x1_1 x2_0 x2_1 x3_0 x3_1 → (1 ≤ a0) → (a0 ≤ 30) → (1 ≤ (a1.length : Int)) → ((a1.length : Int) ≤ 8) → (x0_2 < (a1.length : Int)) → (1 ≤ ((((D.rows (gt a1 x0_2.toNat 0))).length : Int))) → (((((D.rows (gt a1 x0_2.toNat 0))).length : Int)) ≤ 30) → (((((D.rows (gt a1 x0_2.toNat 1))).length : Int)) = ((((D.rows (gt a1 x0_2.toNat 0))).length : Int))) → (¬ x1_1 < ((((D.rows (gt a1 x0_2.toNat 0))).length : Int))) → (x2_1 < ((((D.rows (gt a1 x0_2.toNat 0))).length : Int))) → (x3_1 < x0_1) → x2_1 < ((((D.rows (gt a1 x0_2.toNat 0))).length : Int))
  g23 : ∀ x0_0 x0_1 x0_2, I0 x0_0 x0_1 x0_2 → ∀ x1_0 x1_1, I1 x0_0 x0_1 x0_2 x1_0 x1_1 → ∀ x2_0 x2_1, I2 x0_0 x0_1 x0_2 x1_0 x1_1 x2_0 x2_1 → ∀ x3_0 x3_1, I3 x0_0 x0_1 x0_2 x1_0 x1_1 x2_0 x2_1 x3_0 x3_1 → (1 ≤ a0) → (a0 ≤ 30) → (1 ≤ (a1.length : Int)) → ((a1.length : Int) ≤ 8) → (x0_2 < (a1.length : Int)) → (1 ≤ ((((D.rows (gt a1 x0_2.toNat 0))).length : Int))) → (((((D.rows (gt a1 x0_2.toNat 0))).length : Int)) ≤ 30) → (((((D.rows (gt a1 x0_2.toNat 1))).length : Int)) = ((((D.rows (gt a1 x0_2.toNat 0))).length : Int))) → (¬ x1_1 < ((((D.rows (gt a1 x0_2.toNat 0))).length : Int))) → (x2_1 < ((((D.rows (gt a1 x0_2.toNat 0))).length : Int))) → (x3_1 < x0_1) → 0 ≤ x3_1
  g24 : ∀ x0_0 x0_1 x0_2, I0 x0_0 x0_1 x0_2 → ∀ x1_0 x1_1, I1 x0_0 x0_1 x0_2 x1_0 x1_1 → ∀ x2_0 x2_1, I2 x0_0 x0_1 x0_2 x1_0 x1_1 x2_0 x2_1 → ∀ x3_0 x3_1, I3 x0_0 x0_1 x0_2 x1_0 x1_1 x2_0 x2_1 x3_0 x3_1 → (1 ≤ a0) → (a0 ≤ 30) → (1 ≤ (a1.length : Int)) → ((a1.length : Int) ≤ 8) → (x0_2 < (a1.length : Int)) → (1 ≤ ((((D.rows (gt a1 x0_2.toNat 0))).length : Int))) → (((((D.rows (gt a1 x0_2.toNat 0))).length : Int)) ≤ 30) → (((((D.rows (gt a1 x0_2.toNat 1))).length : Int)) = ((((D.rows (gt a1 x0_2.toNat 0))).length : Int))) → (¬ x1_1 < ((((D.rows (gt a1 x0_2.toNat 0))).length : Int))) → (x2_1 < ((((D.rows (gt a1 x0_2.toNat 0))).length : Int))) → (x3_1 < x0_1) → x3_1 < ((((D.rows (gt (D.rows (gt a1 x0_2.toNat 0)) x2_1.toNat 0))).length : Int))
  g25 : ∀ x0_0 x0_1 x0_2, I0 x0_0 x0_1 x0_2 → ∀ x1_0 x1_1, I1 x0_0 x0_1 x0_2 x1_0 x1_1 → ∀ x2_0 x2_1, I2 x0_0 x0_1 x0_2 x1_0 x1_1 x2_0 x2_1 → ∀ x3_0 x3_1, I3 x0_0 x0_1 x0_2 x1_0 x1_1 x2_0 x2_1 x3_0 x3_1 → (1 ≤ a0) → (a0 ≤ 30) → (1 ≤ (a1.length : Int)) → ((a1.length : Int) ≤ 8) → (x0_2 < (a1.length : Int)) → (1 ≤ ((((D.rows (gt a1 x0_2.toNat 0))).length : Int))) → (((((D.rows (gt a1 x0_2.toNat 0))).length : Int)) ≤ 30) → (((((D.rows (gt a1 x0_2.toNat 1))).length : Int)) = ((((D.rows (gt a1 x0_2.toNat 0))).length : Int))) → (¬ x1_1 < ((((D.rows (gt a1 x0_2.toNat 0))).length : Int))) → (x2_1 < ((((D.rows (gt a1 x0_2.toNat 0))).length : Int))) → (x3_1 < x0_1) → ((-32768) ≤ (D.int (gt (D.rows (gt (D.rows (gt a1 x0_2.toNat 0)) x2_1.toNat 0)) x3_1.toNat 0))) → (¬ (D.int (gt (D.rows (gt (D.rows (gt a1 x0_2.toNat 0)) x2_1.toNat 0)) x3_1.toNat 0)) ≤ 32768) → R 0 0 = D.i 3
  g26 : ∀ x0_0 x0_1 x0_2, I0 x0_0 x0_1 x0_2 → ∀ x1_0 x1_1, I1 x0_0 x0_1 x0_2 x1_0 x1_1 → ∀ x2_0 x2_1, I2 x0_0 x0_1 x0_2 x1_0 x1_1 x2_0 x2_1 → ∀ x3_0 x3_1, I3 x0_0 x0_1 x0_2 x1_0 x1_1 x2_0 x2_1 x3_0 x3_1 → (1 ≤ a0) → (a0 ≤ 30) → (1 ≤ (a1.length : Int)) → ((a1.length : Int) ≤ 8) → (x0_2 < (a1.length : Int)) → (1 ≤ ((((D.rows (gt a1 x0_2.toNat 0))).length : Int))) → (((((D.rows (gt a1 x0_2.toNat 0))).length : Int)) ≤ 30) → (((((D.rows (gt a1 x0_2.toNat 1))).length : Int)) = ((((D.rows (gt a1 x0_2.toNat 0))).length : Int))) → (¬ x1_1 < ((((D.rows (gt a1 x0_2.toNat 0))).length : Int))) → (x2_1 < ((((D.rows (gt a1 x0_2.toNat 0))).length : Int))) → (x3_1 < x0_1) → ((-32768) ≤ (D.int (gt (D.rows (gt (D.rows (gt a1 x0_2.toNat 0)) x2_1.toNat 0)) x3_1.toNat 0))) → ((D.int (gt (D.rows (gt (D.rows (gt a1 x0_2.toNat 0)) x2_1.toNat 0)) x3_1.toNat 0)) ≤ 32768) → -9223372036854775808 ≤ (x3_1 + 1) ∧ (x3_1 + 1) ≤ 9223372036854775807
  n27 : ∀ x0_0 x0_1 x0_2, I0 x0_0 x0_1 x0_2 → ∀ x1_0 x1_1, I1 x0_0 x0_1 x0_2 x1_0 x1_1 → ∀ x2_0 x2_1, I2 x0_0 x0_1 x0_2 x1_0 x1_1 x2_0 x2_1 → ∀ x3_0 x3_1, I3 x0_0 x0_1 x0_2 x1_0 x1_1 x2_0 x2_1 x3_0 x3_1 → (1 ≤ a0) → (a0 ≤ 30) → (1 ≤ (a1.length : Int)) → ((a1.length : Int) ≤ 8) → (x0_2 < (a1.length : Int)) → (1 ≤ ((((D.rows (gt a1 x0_2.toNat 0))).length : Int))) → (((((D.rows (gt a1 x0_2.toNat 0))).length : Int)) ≤ 30) → (((((D.rows (gt a1 x0_2.toNat 1))).length : Int)) = ((((D.rows (gt a1 x0_2.toNat 0))).length : Int))) → (¬ x1_1 < ((((D.rows (gt a1 x0_2.toNat 0))).length : Int))) → (x2_1 < ((((D.rows (gt a1 x0_2.toNat 0))).length : Int))) → (x3_1 < x0_1) → ((-32768) ≤ (D.int (gt (D.rows (gt (D.rows (gt a1 x0_2.toNat 0)) x2_1.toNat 0)) x3_1.toNat 0))) → ((D.int (gt (D.rows (gt (D.rows (gt a1 x0_2.toNat 0)) x2_1.toNat 0)) x3_1.toNat 0)) ≤ 32768) → I3 x0_0 x0_1 x0_2 x1_0 x1_1 x2_0 x2_1 x3_0 (x3_1 + 1) ∧ m3 x0_0 x0_1 x0_2 x1_0 x1_1 x2_0 x2_1 x3_0 (x3_1 + 1) < m3 x0_0 x0_1 x0_2 x1_0 x1_1 x2_0 x2_1 x3_0 x3_1
  g28 : ∀ x0_0 x0_1 x0_2, I0 x0_0 x0_1 x0_2 → ∀ x1_0 x1_1, I1 x0_0 x0_1 x0_2 x1_0 x1_1 → ∀ x2_0 x2_1, I2 x0_0 x0_1 x0_2 x1_0 x1_1 x2_0 x2_1 → ∀ x3_0 x3_1, I3 x0_0 x0_1 x0_2 x1_0 x1_1 x2_0 x2_1 x3_0 x3_1 → (1 ≤ a0) → (a0 ≤ 30) → (1 ≤ (a1.length : Int)) → ((a1.length : Int) ≤ 8) → (x0_2 < (a1.length : Int)) → (1 ≤ ((((D.rows (gt a1 x0_2.toNat 0))).length : Int))) → (((((D.rows (gt a1 x0_2.toNat 0))).length : Int)) ≤ 30) → (((((D.rows (gt a1 x0_2.toNat 1))).length : Int)) = ((((D.rows (gt a1 x0_2.toNat 0))).length : Int))) → (¬ x1_1 < ((((D.rows (gt a1 x0_2.toNat 0))).length : Int))) → (x2_1 < ((((D.rows (gt a1 x0_2.toNat 0))).length : Int))) → (x3_1 < x0_1) → (¬ (-32768) ≤ (D.int (gt (D.rows (gt (D.rows (gt a1 x0_2.toNat 0)) x2_1.toNat 0)) x3_1.toNat 0))) → R 0 0 = D.i 3
  g29 : ∀ x0_0 x0_1 x0_2, I0 x0_0 x0_1 x0_2 → ∀ x1_0 x1_1, I1 x0_0 x0_1 x0_2 x1_0 x1_1 → ∀ x2_0 x2_1, I2 x0_0 x0_1 x0_2 x1_0 x1_1 x2_0 x2_1 → ∀ x3_0 x3_1, I3 x0_0 x0_1 x0_2 x1_0 x1_1 x2_0 x2_1 x3_0 x3_1 → (1 ≤ a0) → (a0 ≤ 30) → (1 ≤ (a1.length : Int)) → ((a1.length : Int) ≤ 8) → (x0_2 < (a1.length : Int)) → (1 ≤ ((((D.rows (gt a1 x0_2.toNat 0))).length : Int))) → (((((D.rows (gt a1 x0_2.toNat 0))).length : Int)) ≤ 30) → (((((D.rows (gt a1 x0_2.toNat 1))).length : Int)) = ((((D.rows (gt a1 x0_2.toNat 0))).length : Int))) → (¬ x1_1 < ((((D.rows (gt a1 x0_2.toNat 0))).length : Int))) → (x2_1 < ((((D.rows (gt a1 x0_2.toNat 0))).length : Int))) → (¬ x3_1 < x0_1) → 0 ≤ x0_2
  g30 : ∀ x0_0 x0_1 x0_2, I0 x0_0 x0_1 x0_2 → ∀ x1_0 x1_1, I1 x0_0 x0_1 x0_2 x1_0 x1_1 → ∀ x2_0 x2_1, I2 x0_0 x0_1 x0_2 x1_0 x1_1 x2_0 x2_1 → ∀ x3_0 x3_1, I3 x0_0 x0_1 x0_2 x1_0 x1_1 x2_0 x2_1 x3_0 x3_1 → (1 ≤ a0) → (a0 ≤ 30) → (1 ≤ (a1.length : Int)) → ((a1.length : Int) ≤ 8) → (x0_2 < (a1.length : Int)) → (1 ≤ ((((D.rows (gt a1 x0_2.toNat 0))).length : Int))) → (((((D.rows (gt a1 x0_2.toNat 0))).length : Int)) ≤ 30) → (((((D.rows (gt a1 x0_2.toNat 1))).length : Int)) = ((((D.rows (gt a1 x0_2.toNat 0))).length : Int))) → (¬ x1_1 < ((((D.rows (gt a1 x0_2.toNat 0))).length : Int))) → (x2_1 < ((((D.rows (gt a1 x0_2.toNat 0))).length : Int))) → (¬ x3_1 < x0_1) → x0_2 < (a1.length : Int)
  g31 : ∀ x0_0 x0_1 x0_2, I0 x0_0 x0_1 x0_2 → ∀ x1_0 x1_1, I1 x0_0 x0_1 x0_2 x1_0 x1_1 → ∀ x2_0 x2_1, I2 x0_0 x0_1 x0_2 x1_0 x1_1 x2_0 x2_1 → ∀ x3_0 x3_1, I3 x0_0 x0_1 x0_2 x1_0 x1_1 x2_0 x2_1 x3_0 x3_1 → (1 ≤ a0) → (a0 ≤ 30) → (1 ≤ (a1.length : Int)) → ((a1.length : Int) ≤ 8) → (x0_2 < (a1.length : Int)) → (1 ≤ ((((D.rows (gt a1 x0_2.toNat 0))).length : Int))) → (((((D.rows (gt a1 x0_2.toNat 0))).length : Int)) ≤ 30) → (((((D.rows (gt a1 x0_2.toNat 1))).length : Int)) = ((((D.rows (gt a1 x0_2.toNat 0))).length : Int))) → (¬ x1_1 < ((((D.rows (gt a1 x0_2.toNat 0))).length : Int))) → (x2_1 < ((((D.rows (gt a1 x0_2.toNat 0))).length : Int))) → (¬ x3_1 < x0_1) → 0 ≤ x2_1
  g32 : ∀ x0_0 x0_1 x0_2, I0 x0_0 x0_1 x0_2 → ∀ x1_0 x1_1, I1 x0_0 x0_1 x0_2 x1_0 x1_1 → ∀ x2_0 x2_1, I2 x0_0 x0_1 x0_2 x1_0 x1_1 x2_0 x2_1 → ∀ x3_0 x3_1, I3 x0_0 x0_1 x0_2 x1_0 x1_1 x2_0 x2_1 x3_0 x3_1 → (1 ≤ a0) → (a0 ≤ 30) → (1 ≤ (a1.length : Int)) → ((a1.length : Int) ≤ 8) → (x0_2 < (a1.length : Int)) → (1 ≤ ((((D.rows (gt a1 x0_2.toNat 0))).length : Int))) → (((((D.rows (gt a1 x0_2.toNat 0))).length : Int)) ≤ 30) → (((((D.rows (gt a1 x0_2.toNat 1))).length : Int)) = ((((D.rows (gt a1 x0_2.toNat 0))).length : Int))) → (¬ x1_1 < ((((D.rows (gt a1 x0_2.toNat 0))).length : Int))) → (x2_1 < ((((D.rows (gt a1 x0_2.toNat 0))).length : Int))) → (¬ x3_1 < x0_1) → x2_1 < ((((D.rows (gt a1 x0_2.toNat 1))).length : Int))
  g33 : ∀ x0_0 x0_1 x0_2, I0 x0_0 x0_1 x0_2 → ∀ x1_0 x1_1, I1 x0_0 x0_1 x0_2 x1_0 x1_1 → ∀ x2_0 x2_1, I2 x0_0 x0_1 x0_2 x1_0 x1_1 x2_0 x2_1 → ∀ x3_0 x3_1, I3 x0_0 x0_1 x0_2 x1_0 x1_1 x2_0 x2_1 x3_0 x3_1 → (1 ≤ a0) → (a0 ≤ 30) → (1 ≤ (a1.length : Int)) → ((a1.length : Int) ≤ 8) → (x0_2 < (a1.length : Int)) → (1 ≤ ((((D.rows (gt a1 x0_2.toNat 0))).length : Int))) → (((((D.rows (gt a1 x0_2.toNat 0))).length : Int)) ≤ 30) → (((((D.rows (gt a1 x0_2.toNat 1))).length : Int)) = ((((D.rows (gt a1 x0_2.toNat 0))).length : Int))) → (¬ x1_1 < ((((D.rows (gt a1 x0_2.toNat 0))).length : Int))) → (x2_1 < ((((D.rows (gt a1 x0_2.toNat 0))).length : Int))) → (¬ x3_1 < x0_1) → ((-32767) ≤ (D.int (gt (D.rows (gt a1 x0_2.toNat 1)) x2_1.toNat 0))) → (¬ (D.int (gt (D.rows (gt a1 x0_2.toNat 1)) x2_1.toNat 0)) ≤ 32769) → R 0 0 = D.i 3
  g34 : ∀ x0_0 x0_1 x0_2, I0 x0_0 x0_1 x0_2 → ∀ x1_0 x1_1, I1 x0_0 x0_1 x0_2 x1_0 x1_1 → ∀ x2_0 x2_1, I2 x0_0 x0_1 x0_2 x1_0 x1_1 x2_0 x2_1 → ∀ x3_0 x3_1, I3 x0_0 x0_1 x0_2 x1_0 x1_1 x2_0 x2_1 x3_0 x3_1 → (1 ≤ a0) → (a0 ≤ 30) → (1 ≤ (a1.length : Int)) → ((a1.length : Int) ≤ 8) → (x0_2 < (a1.length : Int)) → (1 ≤ ((((D.rows (gt a1 x0_2.toNat 0))).length : Int))) → (((((D.rows (gt a1 x0_2.toNat 0))).length : Int)) ≤ 30) → (((((D.rows (gt a1 x0_2.toNat 1))).length : Int)) = ((((D.rows (gt a1 x0_2.toNat 0))).length : Int))) → (¬ x1_1 < ((((D.rows (gt a1 x0_2.toNat 0))).length : Int))) → (x2_1 < ((((D.rows (gt a1 x0_2.toNat 0))).length : Int))) → (¬ x3_1 < x0_1) → ((-32767) ≤ (D.int (gt (D.rows (gt a1 x0_2.toNat 1)) x2_1.toNat 0))) → ((D.int (gt (D.rows (gt a1 x0_2.toNat 1)) x2_1.toNat 0)) ≤ 32769) → -9223372036854775808 ≤ (x2_1 + 1) ∧ (x2_1 + 1) ≤ 9223372036854775807
  n35 : ∀ x0_0 x0_1 x0_2, I0 x0_0 x0_1 x0_2 → ∀ x1_0 x1_1, I1 x0_0 x0_1 x0_2 x1_0 x1_1 → ∀ x2_0 x2_1, I2 x0_0 x0_1 x0_2 x1_0 x1_1 x2_0 x2_1 → ∀ x3_0 x3_1, I3 x0_0 x0_1 x0_2 x1_0 x1_1 x2_0 x2_1 x3_0 x3_1 → (1 ≤ a0) → (a0 ≤ 30) → (1 ≤ (a1.length : Int)) → ((a1.length : Int) ≤ 8) → (x0_2 < (a1.length : Int)) → (1 ≤ ((((D.rows (gt a1 x0_2.toNat 0))).length : Int))) → (((((D.rows (gt a1 x0_2.toNat 0))).length : Int)) ≤ 30) → (((((D.rows (gt a1 x0_2.toNat 1))).length : Int)) = ((((D.rows (gt a1 x0_2.toNat 0))).length : Int))) → (¬ x1_1 < ((((D.rows (gt a1 x0_2.toNat 0))).length : Int))) → (x2_1 < ((((D.rows (gt a1 x0_2.toNat 0))).length : Int))) → (¬ x3_1 < x0_1) → ((-32767) ≤ (D.int (gt (D.rows (gt a1 x0_2.toNat 1)) x2_1.toNat 0))) → ((D.int (gt (D.rows (gt a1 x0_2.toNat 1)) x2_1.toNat 0)) ≤ 32769) → I2 x0_0 x0_1 x0_2 x1_0 x1_1 x3_0 (x2_1 + 1) ∧ m2 x0_0 x0_1 x0_2 x1_0 x1_1 x3_0 (x2_1 + 1) < m2 x0_0 x0_1 x0_2 x1_0 x1_1 x2_0 x2_1
  g36 : ∀ x0_0 x0_1 x0_2, I0 x0_0 x0_1 x0_2 → ∀ x1_0 x1_1, I1 x0_0 x0_1 x0_2 x1_0 x1_1 → ∀ x2_0 x2_1, I2 x0_0 x0_1 x0_2 x1_0 x1_1 x2_0 x2_1 → ∀ x3_0 x3_1, I3 x0_0 x0_1 x0_2 x1_0 x1_1 x2_0 x2_1 x3_0 x3_1 → (1 ≤ a0) → (a0 ≤ 30) → (1 ≤ (a1.length : Int)) → ((a1.length : Int) ≤ 8) → (x0_2 < (a1.length : Int)) → (1 ≤ ((((D.rows (gt a1 x0_2.toNat 0))).length : Int))) → (((((D.rows (gt a1 x0_2.toNat 0))).length : Int)) ≤ 30) → (((((D.rows (gt a1 x0_2.toNat 1))).length : Int)) = ((((D.rows (gt a1 x0_2.toNat 0))).length : Int))) → (¬ x1_1 < ((((D.rows (gt a1 x0_2.toNat 0))).length : Int))) → (x2_1 < ((((D.rows (gt a1 x0_2.toNat 0))).length : Int))) → (¬ x3_1 < x0_1) → (¬ (-32767) ≤ (D.int (gt (D.rows (gt a1 x0_2.toNat 1)) x2_1.toNat 0))) → R 0 0 = D.i 3
  g37 : ∀ x0_0 x0_1 x0_2, I0 x0_0 x0_1 x0_2 → ∀ x1_0 x1_1, I1 x0_0 x0_1 x0_2 x1_0 x1_1 → ∀ x2_0 x2_1, I2 x0_0 x0_1 x0_2 x1_0 x1_1 x2_0 x2_1 → (1 ≤ a0) → (a0 ≤ 30) → (1 ≤ (a1.length : Int)) → ((a1.length : Int) ≤ 8) → (x0_2 < (a1.length : Int)) → (1 ≤ ((((D.rows (gt a1 x0_2.toNat 0))).length : Int))) → (((((D.rows (gt a1 x0_2.toNat 0))).length : Int)) ≤ 30) → (((((D.rows (gt a1 x0_2.toNat 1))).length : Int)) = ((((D.rows (gt a1 x0_2.toNat 0))).length : Int))) → (¬ x1_1 < ((((D.rows (gt a1 x0_2.toNat 0))).length : Int))) → (¬ x2_1 < ((((D.rows (gt a1 x0_2.toNat 0))).length : Int))) → -9223372036854775808 ≤ (x0_2 + 1) ∧ (x0_2 + 1) ≤ 9223372036854775807
  n38 : ∀ x0_0 x0_1 x0_2, I0 x0_0 x0_1 x0_2 → ∀ x1_0 x1_1, I1 x0_0 x0_1 x0_2 x1_0 x1_1 → ∀ x2_0 x2_1, I2 x0_0 x0_1 x0_2 x1_0 x1_1 x2_0 x2_1 → (1 ≤ a0) → (a0 ≤ 30) → (1 ≤ (a1.length : Int)) → ((a1.length : Int) ≤ 8) → (x0_2 < (a1.length : Int)) → (1 ≤ ((((D.rows (gt a1 x0_2.toNat 0))).length : Int))) → (((((D.rows (gt a1 x0_2.toNat 0))).length : Int)) ≤ 30) → (((((D.rows (gt a1 x0_2.toNat 1))).length : Int)) = ((((D.rows (gt a1 x0_2.toNat 0))).length : Int))) → (¬ x1_1 < ((((D.rows (gt a1 x0_2.toNat 0))).length : Int))) → (¬ x2_1 < ((((D.rows (gt a1 x0_2.toNat 0))).length : Int))) → I0 x2_0 ((((D.rows (gt a1 x0_2.toNat 0))).length : Int)) (x0_2 + 1) ∧ m0 x2_0 ((((D.rows (gt a1 x0_2.toNat 0))).length : Int)) (x0_2 + 1) < m0 x0_0 x0_1 x0_2
  g39 : ∀ x0_0 x0_1 x0_2, I0 x0_0 x0_1 x0_2 → (1 ≤ a0) → (a0 ≤ 30) → (1 ≤ (a1.length : Int)) → ((a1.length : Int) ≤ 8) → (x0_2 < (a1.length : Int)) → (¬ 1 ≤ ((((D.rows (gt a1 x0_2.toNat 0))).length : Int))) → R 0 0 = D.i 3
  g40 : ∀ x0_0 x0_1 x0_2, I0 x0_0 x0_1 x0_2 → (1 ≤ a0) → (a0 ≤ 30) → (1 ≤ (a1.length : Int)) → ((a1.length : Int) ≤ 8) → (¬ x0_2 < (a1.length : Int)) → R 0 0 = D.i 0
  g41 : (1 ≤ a0) → (a0 ≤ 30) → (¬ 1 ≤ (a1.length : Int)) → R 0 0 = D.i 9
  g42 : (¬ 1 ≤ a0) → R 0 0 = D.i 3
end HX

namespace HX
open Go Go.Proofs CX
structure V63 (pre : Nat → List (List D) → Prop) (fn : Nat → List (List D) → Nat → Nat → D) (a0 : Int) (a1 : Rows) (R : Nat → Nat → D) (I0 : Int → Int → Int → Prop) (m0 : Int → Int → Int → Nat) : Prop where
  g0 : pre 51 [[D.l [[D.i a0, D.i 1, D.i 30]]]]
  g1 : (D.boo (fn 51 [[D.l [[D.i a0, D.i 1, D.i 30]]]] 0 0) = false) → R 0 0 = D.i 3
  g2 : (D.boo (fn 51 [[D.l [[D.i a0, D.i 1, D.i 30]]]] 0 0) = true) → pre 51 [[D.l [[D.i (a1.length : Int), D.i 1, D.i 8]]]]
  g3 : (D.boo (fn 51 [[D.l [[D.i a0, D.i 1, D.i 30]]]] 0 0) = true) → (D.boo (fn 51 [[D.l [[D.i (a1.length : Int), D.i 1, D.i 8]]]] 0 0) = false) → R 0 0 = D.i 9
  i0 : (D.boo (fn 51 [[D.l [[D.i a0, D.i 1, D.i 30]]]] 0 0) = true) → (D.boo (fn 51 [[D.l [[D.i (a1.length : Int), D.i 1, D.i 8]]]] 0 0) = true) → I0 0 a0 0
  g5 : ∀ x0_0 x0_1 x0_2, I0 x0_0 x0_1 x0_2 → (D.boo (fn 51 [[D.l [[D.i a0, D.i 1, D.i 30]]]] 0 0) = true) → (D.boo (fn 51 [[D.l [[D.i (a1.length : Int), D.i 1, D.i 8]]]] 0 0) = true) → (x0_2 < (a1.length : Int)) → 0 ≤ x0_2
  g6 : ∀ x0_0 x0_1 x0_2, I0 x0_0 x0_1 x0_2 → (D.boo (fn 51 [[D.l [[D.i a0, D.i 1, D.i 30]]]] 0 0) = true) → (D.boo (fn 51 [[D.l [[D.i (a1.length : Int), D.i 1, D.i 8]]]] 0 0) = true) → (x0_2 < (a1.length : Int)) → x0_2 < (a1.length : Int)
  g7 : ∀ x0_0 x0_1 x0_2, I0 x0_0 x0_1 x0_2 → (D.boo (fn 51 [[D.l [[D.i a0, D.i 1, D.i 30]]]] 0 0) = true) → (D.boo (fn 51 [[D.l [[D.i (a1.length : Int), D.i 1, D.i 8]]]] 0 0) = true) → (x0_2 < (a1.length : Int)) → pre 65 [[D.l (D.rows (gt a1 x0_2.toNat 0)), D.l (D.rows (gt a1 x0_2.toNat 1))], [D.i x0_1]]
  g8 : ∀ x0_0 x0_1 x0_2, I0 x0_0 x0_1 x0_2 → (D.boo (fn 51 [[D.l [[D.i a0, D.i 1, D.i 30]]]] 0 0) = true) → (D.boo (fn 51 [[D.l [[D.i (a1.length : Int), D.i 1, D.i 8]]]] 0 0) = true) → (x0_2 < (a1.length : Int)) → (¬ (D.int (fn 65 [[D.l (D.rows (gt a1 x0_2.toNat 0)), D.l (D.rows (gt a1 x0_2.toNat 1))], [D.i x0_1]] 0 0)) = 0) → R 0 0 = D.i (D.int (fn 65 [[D.l (D.rows (gt a1 x0_2.toNat 0)), D.l (D.rows (gt a1 x0_2.toNat 1))], [D.i x0_1]] 0 0))
  g9 : ∀ x0_0 x0_1 x0_2, I0 x0_0 x0_1 x0_2 → (D.boo (fn 51 [[D.l [[D.i a0, D.i 1, D.i 30]]]] 0 0) = true) → (D.boo (fn 51 [[D.l [[D.i (a1.length : Int), D.i 1, D.i 8]]]] 0 0) = true) → (x0_2 < (a1.length : Int)) → ((D.int (fn 65 [[D.l (D.rows (gt a1 x0_2.toNat 0)), D.l (D.rows (gt a1 x0_2.toNat 1))], [D.i x0_1]] 0 0)) = 0) → -9223372036854775808 ≤ (x0_2 + 1) ∧ (x0_2 + 1) ≤ 9223372036854775807
  n10 : ∀ x0_0 x0_1 x0_2, I0 x0_0 x0_1 x0_2 → (D.boo (fn 51 [[D.l [[D.i a0, D.i 1, D.i 30]]]] 0 0) = true) → (D.boo (fn 51 [[D.l [[D.i (a1.length : Int), D.i 1, D.i 8]]]] 0 0) = true) → (x0_2 < (a1.length : Int)) → ((D.int (fn 65 [[D.l (D.rows (gt a1 x0_2.toNat 0)), D.l (D.rows (gt a1 x0_2.toNat 1))], [D.i x0_1]] 0 0)) = 0) → I0 x0_0 ((((D.rows (gt a1 x0_2.toNat 0))).length : Int)) (x0_2 + 1) ∧ m0 x0_0 ((((D.rows (gt a1 x0_2.toNat 0))).length : Int)) (x0_2 + 1) < m0 x0_0 x0_1 x0_2
  g11 : ∀ x0_0 x0_1 x0_2, I0 x0_0 x0_1 x0_2 → (D.boo (fn 51 [[D.l [[D.i a0, D.i 1, D.i 30]]]] 0 0) = true) → (D.boo (fn 51 [[D.l [[D.i (a1.length : Int), D.i 1, D.i 8]]]] 0 0) = true) → (¬ x0_2 < (a1.length : Int)) → R 0 0 = D.i 0
end HX

namespace HX
open Go Go.Proofs CX
structure V65 (pre : Nat → List (List D) → Prop) (fn : Nat → List (List D) → Nat → Nat → D) (a0_0 : Rows) (a0_1 : Rows) (a1 : Int) (R : Nat → Nat → D) (I0 : Int → Int → Prop) (m0 : Int → Int → Nat) (I1 : Int → Int → Int → Int → Prop) (m1 : Int → Int → Int → Int → Nat) (I2 : Int → Int → Int → Int → Int → Int → Prop) (m2 : Int → Int → Int → Int → Int → Int → Nat) (I3 : Int → Int → Int → Int → Prop) (m3 : Int → Int → Int → Int → Nat) (I4 : Int → Int → Int → Int → Int → Int → Prop) (m4 : Int → Int → Int → Int → Int → Int → Nat) : Prop where
  g0 : pre 51 [[D.l [[D.i (a0_0.length : Int), D.i 1, D.i 30]]]]
  g1 : (D.boo (fn 51 [[D.l [[D.i (a0_0.length : Int), D.i 1, D.i 30]]]] 0 0) = false) → R 0 0 = D.i 3
  g2 : (D.boo (fn 51 [[D.l [[D.i (a0_0.length : Int), D.i 1, D.i 30]]]] 0 0) = true) → (¬ (a0_1.length : Int) = (a0_0.length : Int)) → R 0 0 = D.i 13
  i0 : (D.boo (fn 51 [[D.l [[D.i (a0_0.length : Int), D.i 1, D.i 30]]]] 0 0) = true) → ((a0_1.length : Int) = (a0_0.length : Int)) → I0 0 0
  g4 : ∀ x0_0 x0_1, I0 x0_0 x0_1 → (D.boo (fn 51 [[D.l [[D.i (a0_0.length : Int), D.i 1, D.i 30]]]] 0 0) = true) → ((a0_1.length : Int) = (a0_0.length : Int)) → (x0_1 < (a0_0.length : Int)) → 0 ≤ x0_1
  g5 : ∀ x0_0 x0_1, I0 x0_0 x0_1 → (D.boo (fn 51 [[D.l [[D.i (a0_0.length : Int), D.i 1, D.i 30]]]] 0 0) = true) → ((a0_1.length : Int) = (a0_0.length : Int)) → (x0_1 < (a0_0.length : Int)) → x0_1 < (a0_0.length : Int)
  g6 : ∀ x0_0 x0_1, I0 x0_0 x0_1 → (D.boo (fn 51 [[D.l [[D.i (a0_0.length : Int), D.i 1, D.i 30]]]] 0 0) = true) → ((a0_1.length : Int) = (a0_0.length : Int)) → (x0_1 < (a0_0.length : Int)) → (¬ ((((D.rows (gt a0_0 x0_1.toNat 0))).length : Int)) = a1) → (0 ≤ x0_1) → R 0 0 = D.i 13
  g7 : ∀ x0_0 x0_1, I0 x0_0 x0_1 → (D.boo (fn 51 [[D.l [[D.i (a0_0.length : Int), D.i 1, D.i 30]]]] 0 0) = true) → ((a0_1.length : Int) = (a0_0.length : Int)) → (x0_1 < (a0_0.length : Int)) → (¬ ((((D.rows (gt a0_0 x0_1.toNat 0))).length : Int)) = a1) → (¬ 0 ≤ x0_1) → pre 105 [[D.l a0_0]]
  i1 : ∀ x0_0 x0_1, I0 x0_0 x0_1 → (D.boo (fn 51 [[D.l [[D.i (a0_0.length : Int), D.i 1, D.i 30]]]] 0 0) = true) → ((a0_1.length : Int) = (a0_0.length : Int)) → (x0_1 < (a0_0.length : Int)) → (¬ ((((D.rows (gt a0_0 x0_1.toNat 0))).length : Int)) = a1) → (¬ 0 ≤ x0_1) → I1 x0_0 x0_1 0 0
  g9 : ∀ x0_0 x0_1, I0 x0_0 x0_1 → ∀ x1_0 x1_1, I1 x0_0 x0_1 x1_0 x1_1 → (D.boo (fn 51 [[D.l [[D.i (a0_0.length : Int), D.i 1, D.i 30]]]] 0 0) = true) → ((a0_1.length : Int) = (a0_0.length : Int)) → (x0_1 < (a0_0.length : Int)) → (¬ ((((D.rows (gt a0_0 x0_1.toNat 0))).length : Int)) = a1) → (¬ 0 ≤ x0_1) → (x1_1 < (((D.rows (fn 105 [[D.l a0_0]] 0 0))).length : Int)) → 0 ≤ x1_1
  g10 : ∀ x0_0 x0_1, I0 x0_0 x0_1 → ∀ x1_0 x1_1, I1 x0_0 x0_1 x1_0 x1_1 → (D.boo (fn 51 [[D.l [[D.i (a0_0.length : Int), D.i 1, D.i 30]]]] 0 0) = true) → ((a0_1.length : Int) = (a0_0.length : Int)) → (x0_1 < (a0_0.length : Int)) → (¬ ((((D.rows (gt a0_0 x0_1.toNat 0))).length : Int)) = a1) → (¬ 0 ≤ x0_1) → (x1_1 < (((D.rows (fn 105 [[D.l a0_0]] 0 0))).length : Int)) → x1_1 < (((D.rows (fn 105 [[D.l a0_0]] 0 0))).length : Int)
  g11 : ∀ x0_0 x0_1, I0 x0_0 x0_1 → ∀ x1_0 x1_1, I1 x0_0 x0_1 x1_0 x1_1 → (D.boo (fn 51 [[D.l [[D.i (a0_0.length : Int), D.i 1, D.i 30]]]] 0 0) = true) → ((a0_1.length : Int) = (a0_0.length : Int)) → (x0_1 < (a0_0.length : Int)) → (¬ ((((D.rows (gt a0_0 x0_1.toNat 0))).length : Int)) = a1) → (¬ 0 ≤ x0_1) → (x1_1 < (((D.rows (fn 105 [[D.l a0_0]] 0 0))).length : Int)) → pre 51 [[D.l [[D.i (D.int (gt (D.rows (fn 105 [[D.l a0_0]] 0 0)) x1_1.toNat 0)), D.i (-32768), D.i 32768]]]]
  g12 : ∀ x0_0 x0_1, I0 x0_0 x0_1 → ∀ x1_0 x1_1, I1 x0_0 x0_1 x1_0 x1_1 → (D.boo (fn 51 [[D.l [[D.i (a0_0.length : Int), D.i 1, D.i 30]]]] 0 0) = true) → ((a0_1.length : Int) = (a0_0.length : Int)) → (x0_1 < (a0_0.length : Int)) → (¬ ((((D.rows (gt a0_0 x0_1.toNat 0))).length : Int)) = a1) → (¬ 0 ≤ x0_1) → (x1_1 < (((D.rows (fn 105 [[D.l a0_0]] 0 0))).length : Int)) → (D.boo (fn 51 [[D.l [[D.i (D.int (gt (D.rows (fn 105 [[D.l a0_0]] 0 0)) x1_1.toNat 0)), D.i (-32768), D.i 32768]]]] 0 0) = false) → R 0 0 = D.i 3
  g13 : ∀ x0_0 x0_1, I0 x0_0 x0_1 → ∀ x1_0 x1_1, I1 x0_0 x0_1 x1_0 x1_1 → (D.boo (fn 51 [[D.l [[D.i (a0_0.length : Int), D.i 1, D.i 30]]]] 0 0) = true) → ((a0_1.length : Int) = (a0_0.length : Int)) → (x0_1 < (a0_0.length : Int)) → (¬ ((((D.rows (gt a0_0 x0_1.toNat 0))).length : Int)) = a1) → (¬ 0 ≤ x0_1) → (x1_1 < (((D.rows (fn 105 [[D.l a0_0]] 0 0))).length : Int)) → (D.boo (fn 51 [[D.l [[D.i (D.int (gt (D.rows (fn 105 [[D.l a0_0]] 0 0)) x1_1.toNat 0)), D.i (-32768), D.i 32768]]]] 0 0) = true) → -9223372036854775808 ≤ (x1_1 + 1) ∧ (x1_1 + 1) ≤ 9223372036854775807
  n14 : ∀ x0_0 x0_1, I0 x0_0 x0_1 → ∀ x1_0 x1_1, I1 x0_0 x0_1 x1_0 x1_1 → (D.boo (fn 51 [[D.l [[D.i (a0_0.length : Int), D.i 1, D.i 30]]]] 0 0) = true) → ((a0_1.length : Int) = (a0_0.length : Int)) → (x0_1 < (a0_0.length : Int)) → (¬ ((((D.rows (gt a0_0 x0_1.toNat 0))).length : Int)) = a1) → (¬ 0 ≤ x0_1) → (x1_1 < (((D.rows (fn 105 [[D.l a0_0]] 0 0))).length : Int)) → (D.boo (fn 51 [[D.l [[D.i (D.int (gt (D.rows (fn 105 [[D.l a0_0]] 0 0)) x1_1.toNat 0)), D.i (-32768), D.i 32768]]]] 0 0) = true) → I1 x0_0 x0_1 x1_0 (x1_1 + 1) ∧ m1 x0_0 x0_1 x1_0 (x1_1 + 1) < m1 x0_0 x0_1 x1_0 x1_1
  i2 : ∀ x0_0 x0_1, I0 x0_0 x0_1 → ∀ x1_0 x1_1, I1 x0_0 x0_1 x1_0 x1_1 → (D.boo (fn 51 [[D.l [[D.i (a0_0.length : Int), D.i 1, D.i 30]]]] 0 0) = true) → ((a0_1.length : Int) = (a0_0.length : Int)) → (x0_1 < (a0_0.length : Int)) → (¬ ((((D.rows (gt a0_0 x0_1.toNat 0))).length : Int)) = a1) → (¬ 0 ≤ x0_1) → (¬ x1_1 < (((D.rows (fn 105 [[D.l a0_0]] 0 0))).length : Int)) → I2 x0_0 x0_1 x1_0 x1_1 x1_0 0
  g16 : ∀ x0_0 x0_1, I0 x0_0 x0_1 → ∀ x1_0 x1_1, I1 x0_0 x0_1 x1_0 x1_1 → ∀ x2_0 x2_1, I2 x0_0 x0_1 x1_0 x1_1 x2_0 x2_1 → (D.boo (fn 51 [[D.l [[D.i (a0_0.length : Int), D.i 1, D.i 30]]]] 0 0) = true) → ((a0_1.length : Int) = (a0_0.length : Int)) → (x0_1 < (a0_0.length : Int)) → (¬ ((((D.rows (gt a0_0 x0_1.toNat 0))).length : Int)) = a1) → (¬ 0 ≤ x0_1) → (¬ x1_1 < (((D.rows (fn 105 [[D.l a0_0]] 0 0))).length : Int)) → (x2_1 < (a0_1.length : Int)) → 0 ≤ x2_1
  g17 : ∀ x0_0 x0_1, I0 x0_0 x0_1 → ∀ x1_0 x1_1, I1 x0_0 x0_1 x1_0 x1_1 → ∀ x2_0 x2_1, I2 x0_0 x0_1 x1_0 x1_1 x2_0 x2_1 → (D.boo (fn 51 [[D.l [[D.i (a0_0.length : Int), D.i 1, D.i 30]]]] 0 0) = true) → ((a0_1.length : Int) = (a0_0.length : Int)) → (x0_1 < (a0_0.length : Int)) → (¬ ((((D.rows (gt a0_0 x0_1.toNat 0))).length : Int)) = a1) → (¬ 0 ≤ x0_1) → (¬ x1_1 < (((D.rows (fn 105 [[D.l a0_0]] 0 0))).length : Int)) → (x2_1 < (a0_1.length : Int)) → x2_1 < (a0_1.length : Int)
  g18 : ∀ x0_0 x0_1, I0 x0_0 x0_1 → ∀ x1_0 x1_1, I1 x0_0 x0_1 x1_0 x1_1 → ∀ x2_0 x2_1, I2 x0_0 x0_1 x1_0 x1_1 x2_0 x2_1 → (D.boo (fn 51 [[D.l [[D.i (a0_0.length : Int), D.i 1, D.i 30]]]] 0 0) = true) → ((a0_1.length : Int) = (a0_0.length : Int)) → (x0_1 < (a0_0.length : Int)) → (¬ ((((D.rows (gt a0_0 x0_1.toNat 0))).length : Int)) = a1) → (¬ 0 ≤ x0_1) → (¬ x1_1 < (((D.rows (fn 105 [[D.l a0_0]] 0 0))).length : Int)) → (x2_1 < (a0_1.length : Int)) → pre 51 [[D.l [[D.i (D.int (gt a0_1 x2_1.toNat 0)), D.i (-32767), D.i 32769]]]]
  g19 : ∀ x0_0 x0_1, I0 x0_0 x0_1 → ∀ x1_0 x1_1, I1 x0_0 x0_1 x1_0 x1_1 → ∀ x2_0 x2_1, I2 x0_0 x0_1 x1_0 x1_1 x2_0 x2_1 → (D.boo (fn 51 [[D.l [[D.i (a0_0.length : Int), D.i 1, D.i 30]]]] 0 0) = true) → ((a0_1.length : Int) = (a0_0.length : Int)) → (x0_1 < (a0_0.length : Int)) → (¬ ((((D.rows (gt a0_0 x0_1.toNat 0))).length : Int)) = a1) → (¬ 0 ≤ x0_1) → (¬ x1_1 < (((D.rows (fn 105 [[D.l a0_0]] 0 0))).length : Int)) → (x2_1 < (a0_1.length : Int)) → (D.boo (fn 51 [[D.l [[D.i (D.int (gt a0_1 x2_1.toNat 0)), D.i (-32767), D.i 32769]]]] 0 0) = false) → R 0 0 = D.i 3
  g20 : ∀ x0_0 x0_1, I0 x0_0 x0_1 → ∀ x1_0 x1_1, I1 x0_0 x0_1 x1_0 x1_1 → ∀ x2_0 x2_1, I2 x0_0 x0_1 x1_0 x1_1 x2_0 x2_1 → (D.boo (fn 51 [[D.l [[D.i (a0_0.length : Int), D.i 1, D.i 30]]]] 0 0) = true) → ((a0_1.length : Int) = (a0_0.length : Int)) → (x0_1 < (a0_0.length : Int)) → (¬ ((((D.rows (gt a0_0 x0_1.toNat 0))).length : Int)) = a1) → (¬ 0 ≤ x0_1) → (¬ x1_1 < (((D.rows (fn 105 [[D.l a0_0]] 0 0))).length : Int)) → (x2_1 < (a0_1.length : Int)) → (D.boo (fn 51 [[D.l [[D.i (D.int (gt a0_1 x2_1.toNat 0)), D.i (-32767), D.i 32769]]]] 0 0) = true) → -9223372036854775808 ≤ (x2_1 + 1) ∧ (x2_1 + 1) ≤ 9223372036854775807
  n21 : ∀ x0_0 x0_1, I0 x0_0 x0_1 → ∀ x1_0 x1_1, I1 x0_0 x0_1 x1_0 x1_1 → ∀ x2_0 x2_1, I2 x0_0 x0_1 x1_0 x1_1 x2_0 x2_1 → (D.boo (fn 51 [[D.l [[D.i (a0_0.length : Int), D.i 1, D.i 30]]]] 0 0) = true) → ((a0_1.length : Int) = (a0_0.length : Int)) → (x0_1 < (a0_0.length : Int)) → (¬ ((((D.rows (gt a0_0 x0_1.toNat 0))).length : Int)) = a1) → (¬ 0 ≤ x0_1) → (¬ x1_1 < (((D.rows (fn 105 [[D.l a0_0]] 0 0))).length : Int)) → (x2_1 < (a0_1.length : Int)) → (D.boo (fn 51 [[D.l [[D.i (D.int (gt a0_1 x2_1.toNat 0)), D.i (-32767), D.i 32769]]]] 0 0) = true) → I2 x0_0 x0_1 x1_0 x1_1 x2_0 (x2_1 + 1) ∧ m2 x0_0 x0_1 x1_0 x1_1 x2_0 (x2_1 + 1) < m2 x0_0 x0_1 x1_0 x1_1 x2_0 x2_1
  g22 : ∀ x0_0 x0_1, I0 x0_0 x0_1 → ∀ x1_0 x1_1, I1 x0_0 x0_1 x1_0 x1_1 → ∀ x2_0 x2_1, I2 x0_0 x0_1 x1_0 x1_1 x2_0 x2_1 → (D.boo (fn 51 [[D.l [[D.i (a0_0.length : Int), D.i 1, D.i 30]]]] 0 0) = true) → ((a0_1.length : Int) = (a0_0.length : Int)) → (x0_1 < (a0_0.length : Int)) → (¬ ((((D.rows (gt a0_0 x0_1.toNat 0))).length : Int)) = a1) → (¬ 0 ≤ x0_1) → (¬ x1_1 < (((D.rows (fn 105 [[D.l a0_0]] 0 0))).length : Int)) → (¬ x2_1 < (a0_1.length : Int)) → R 0 0 = D.i 0
  g23 : ∀ x0_0 x0_1, I0 x0_0 x0_1 → (D.boo (fn 51 [[D.l [[D.i (a0_0.length : Int), D.i 1, D.i 30]]]] 0 0) = true) → ((a0_1.length : Int) = (a0_0.length : Int)) → (x0_1 < (a0_0.length : Int)) → (((((D.rows (gt a0_0 x0_1.toNat 0))).length : Int)) = a1) → -9223372036854775808 ≤ (x0_1 + 1) ∧ (x0_1 + 1) ≤ 9223372036854775807
  n24 : ∀ x0_0 x0_1, I0 x0_0 x0_1 → (D.boo (fn 51 [[D.l [[D.i (a0_0.length : Int), D.i 1, D.i 30]]]] 0 0) = true) → ((a0_1.length : Int) = (a0_0.length : Int)) → (x0_1 < (a0_0.length : Int)) → (((((D.rows (gt a0_0 x0_1.toNat 0))).length : Int)) = a1) → I0 x0_0 (x0_1 + 1) ∧ m0 x0_0 (x0_1 + 1) < m0 x0_0 x0_1
  g26 : ∀ x0_0 x0_1, I0 x0_0 x0_1 → (D.boo (fn 51 [[D.l [[D.i (a0_0.length : Int), D.i 1, D.i 30]]]] 0 0) = true) → ((a0_1.length : Int) = (a0_0.length : Int)) → (¬ x0_1 < (a0_0.length : Int)) → pre 105 [[D.l a0_0]]
  i3 : ∀ x0_0 x0_1, I0 x0_0 x0_1 → (D.boo (fn 51 [[D.l [[D.i (a0_0.length : Int), D.i 1, D.i 30]]]] 0 0) = true) → ((a0_1.length : Int) = (a0_0.length : Int)) → (¬ x0_1 < (a0_0.length : Int)) → I3 x0_0 x0_1 0 0
  g28 : ∀ x0_0 x0_1, I0 x0_0 x0_1 → ∀ x3_0 x3_1, I3 x0_0 x0_1 x3_0 x3_1 → (D.boo (fn 51 [[D.l [[D.i (a0_0.length : Int), D.i 1, D.i 30]]]] 0 0) = true) → ((a0_1.length : Int) = (a0_0.length : Int)) → (¬ x0_1 < (a0_0.length : Int)) → (x3_1 < (((D.rows (fn 105 [[D.l a0_0]] 0 0))).length : Int)) → 0 ≤ x3_1
  g29 : ∀ x0_0 x0_1, I0 x0_0 x0_1 → ∀ x3_0 x3_1, I3 x0_0 x0_1 x3_0 x3_1 → (D.boo (fn 51 [[D.l [[D.i (a0_0.length : Int), D.i 1, D.i 30]]]] 0 0) = true) → ((a0_1.length : Int) = (a0_0.length : Int)) → (¬ x0_1 < (a0_0.length : Int)) → (x3_1 < (((D.rows (fn 105 [[D.l a0_0]] 0 0))).length : Int)) → x3_1 < (((D.rows (fn 105 [[D.l a0_0]] 0 0))).length : Int)
  g30 : ∀ x0_0 x0_1, I0 x0_0 x0_1 → ∀ x3_0 x3_1, I3 x0_0 x0_1 x3_0 x3_1 → (D.boo (fn 51 [[D.l [[D.i (a0_0.length : Int), D.i 1, D.i 30]]]] 0 0) = true) → ((a0_1.length : Int) = (a0_0.length : Int)) → (¬ x0_1 < (a0_0.length : Int)) → (x3_1 < (((D.rows (fn 105 [[D.l a0_0]] 0 0))).length : Int)) → pre 51 [[D.l [[D.i (D.int (gt (D.rows (fn 105 [[D.l a0_0]] 0 0)) x3_1.toNat 0)), D.i (-32768), D.i 32768]]]]
  g31 : ∀ x0_0 x0_1, I0 x0_0 x0_1 → ∀ x3_0 x3_1, I3 x0_0 x0_1 x3_0 x3_1 → (D.boo (fn 51 [[D.l [[D.i (a0_0.length : Int), D.i 1, D.i 30]]]] 0 0) = true) → ((a0_1.length : Int) = (a0_0.length : Int)) → (¬ x0_1 < (a0_0.length : Int)) → (x3_1 < (((D.rows (fn 105 [[D.l a0_0]] 0 0))).length : Int)) → (D.boo (fn 51 [[D.l [[D.i (D.int (gt (D.rows (fn 105 [[D.l a0_0]] 0 0)) x3_1.toNat 0)), D.i (-32768), D.i 32768]]]] 0 0) = false) → R 0 0 = D.i 3
  g32 : ∀ x0_0 x0_1, I0 x0_0 x0_1 → ∀ x3_0 x3_1, I3 x0_0 x0_1 x3_0 x3_1 → (D.boo (fn 51 [[D.l [[D.i (a0_0.length : Int), D.i 1, D.i 30]]]] 0 0) = true) → ((a0_1.length : Int) = (a0_0.length : Int)) → (¬ x0_1 < (a0_0.length : Int)) → (x3_1 < (((D.rows (fn 105 [[D.l a0_0]] 0 0))).length : Int)) → (D.boo (fn 51 [[D.l [[D.i (D.int (gt (D.rows (fn 105 [[D.l a0_0]] 0 0)) x3_1.toNat 0)), D.i (-32768), D.i 32768]]]] 0 0) = true) → -9223372036854775808 ≤ (x3_1 + 1) ∧ (x3_1 + 1) ≤ 9223372036854775807
  n33 : ∀ x0_0 x0_1, I0 x0_0 x0_1 → ∀ x3_0 x3_1, I3 x0_0 x0_1 x3_0 x3_1 → (D.boo (fn 51 [[D.l [[D.i (a0_0.length : Int), D.i 1, D.i 30]]]] 0 0) = true) → ((a0_1.length : Int) = (a0_0.length : Int)) → (¬ x0_1 < (a0_0.length : Int)) → (x3_1 < (((D.rows (fn 105 [[D.l a0_0]] 0 0))).length : Int)) → (D.boo (fn 51 [[D.l [[D.i (D.int (gt (D.rows (fn 105 [[D.l a0_0]] 0 0)) x3_1.toNat 0)), D.i (-32768), D.i 32768]]]] 0 0) = true) → I3 x0_0 x0_1 x3_0 (x3_1 + 1) ∧ m3 x0_0 x0_1 x3_0 (x3_1 + 1) < m3 x0_0 x0_1 x3_0 x3_1
  i4 : ∀ x0_0 x0_1, I0 x0_0 x0_1 → ∀ x3_0 x3_1, I3 x0_0 x0_1 x3_0 x3_1 → (D.boo (fn 51 [[D.l [[D.i (a0_0.length : Int), D.i 1, D.i 30]]]] 0 0) = true) → ((a0_1.length : Int) = (a0_0.length : Int)) → (¬ x0_1 < (a0_0.length : Int)) → (¬ x3_1 < (((D.rows (fn 105 [[D.l a0_0]] 0 0))).length : Int)) → I4 x0_0 x0_1 x3_0 x3_1 x3_0 0
  g35 : ∀ x0_0 x0_1, I0 x0_0 x0_1 → ∀ x3_0 x3_1, I3 x0_0 x0_1 x3_0 x3_1 → ∀ x4_0 x4_1, I4 x0_0 x0_1 x3_0 x3_1 x4_0 x4_1 → (D.boo (fn 51 [[D.l [[D.i (a0_0.length : Int), D.i 1, D.i 30]]]] 0 0) = true) → ((a0_1.length : Int) = (a0_0.length : Int)) → (¬ x0_1 < (a0_0.length : Int)) → (¬ x3_1 < (((D.rows (fn 105 [[D.l a0_0]] 0 0))).length : Int)) → (x4_1 < (a0_1.length : Int)) → 0 ≤ x4_1
  g36 : ∀ x0_0 x0_1, I0 x0_0 x0_1 → ∀ x3_0 x3_1, I3 x0_0 x0_1 x3_0 x3_1 → ∀ x4_0 x4_1, I4 x0_0 x0_1 x3_0 x3_1 x4_0 x4_1 → (D.boo (fn 51 [[D.l [[D.i (a0_0.length : Int), D.i 1, D.i 30]]]] 0 0) = true) → ((a0_1.length : Int) = (a0_0.length : Int)) → (¬ x0_1 < (a0_0.length : Int)) → (¬ x3_1 < (((D.rows (fn 105 [[D.l a0_0]] 0 0))).length : Int)) → (x4_1 < (a0_1.length : Int)) → x4_1 < (a0_1.length : Int)
  g37 : ∀ x0_0 x0_1, I0 x0_0 x0_1 → ∀ x3_0 x3_1, I3 x0_0 x0_1 x3_0 x3_1 → ∀ x4_0 x4_1, I4 x0_0 x0_1 x3_0 x3_1 x4_0 x4_1 → (D.boo (fn 51 [[D.l [[D.i (a0_0.length : Int), D.i 1, D.i 30]]]] 0 0) = true) → ((a0_1.length : Int) = (a0_0.length : Int)) → (¬ x0_1 < (a0_0.length : Int)) → (¬ x3_1 < (((D.rows (fn 105 [[D.l a0_0]] 0 0))).length : Int)) → (x4_1 < (a0_1.length : Int)) → pre 51 [[D.l [[D.i (D.int (gt a0_1 x4_1.toNat 0)), D.i (-32767), D.i 32769]]]]
  g38 : ∀ x0_0 x0_1, I0 x0_0 x0_1 → ∀ x3_0 x3_1, I3 x0_0 x0_1 x3_0 x3_1 → ∀ x4_0 x4_1, I4 x0_0 x0_1 x3_0 x3_1 x4_0 x4_1 → (D.boo (fn 51 [[D.l [[D.i (a0_0.length : Int), D.i 1, D.i 30]]]] 0 0) = true) → ((a0_1.length : Int) = (a0_0.length : Int)) → (¬ x0_1 < (a0_0.length : Int)) → (¬ x3_1 < (((D.rows (fn 105 [[D.l a0_0]] 0 0))).length : Int)) → (x4_1 < (a0_1.length : Int)) → (D.boo (fn 51 [[D.l [[D.i (D.int (gt a0_1 x4_1.toNat 0)), D.i (-32767), D.i 32769]]]] 0 0) = false) → R 0 0 = D.i 3
  g39 : ∀ x0_0 x0_1, I0 x0_0 x0_1 → ∀ x3_0 x3_1, I3 x0_0 x0_1 x3_0 x3_1 → ∀ x4_0 x4_1, I4 x0_0 x0_1 x3_0 x3_1 x4_0 x4_1 → (D.boo (fn 51 [[D.l [[D.i (a0_0.length : Int), D.i 1, D.i 30]]]] 0 0) = true) → ((a0_1.length : Int) = (a0_0.length : Int)) → (¬ x0_1 < (a0_0.length : Int)) → (¬ x3_1 < (((D.rows (fn 105 [[D.l a0_0]] 0 0))).length : Int)) → (x4_1 < (a0_1.length : Int)) → (D.boo (fn 51 [[D.l [[D.i (D.int (gt a0_1 x4_1.toNat 0)), D.i (-32767), D.i 32769]]]] 0 0) = true) → -9223372036854775808 ≤ (x4_1 + 1) ∧ (x4_1 + 1) ≤ 9223372036854775807
  n40 : ∀ x0_0 x0_1, I0 x0_0 x0_1 → ∀ x3_0 x3_1, I3 x0_0 x0_1 x3_0 x3_1 → ∀ x4_0 x4_1, I4 x0_0 x0_1 x3_0 x3_1 x4_0 x4_1 → (D.boo (fn 51 [[D.l [[D.i (a0_0.length : Int), D.i 1, D.i 30]]]] 0 0) = true) → ((a0_1.length : Int) = (a0_0.length : Int)) → (¬ x0_1 < (a0_0.length : Int)) → (¬ x3_1 < (((D.rows (fn 105 [[D.l a0_0]] 0 0))).length : Int)) → (x4_1 < (a0_1.length : Int)) → (D.boo (fn 51 [[D.l [[D.i (D.int (gt a0_1 x4_1.toNat 0)), D.i (-32767), D.i 32769]]]] 0 0) = true) → I4 x0_0 x0_1 x3_0 x3_1 x4_0 (x4_1 + 1) ∧ m4 x0_0 x0_1 x3_0 x3_1 x4_0 (x4_1 + 1) < m4 x0_0 x0_1 x3_0 x3_1 x4_0 x4_1
  g41 : ∀ x0_0 x0_1, I0 x0_0 x0_1 → ∀ x3_0 x3_1, I3 x0_0 x0_1 x3_0 x3_1 → ∀ x4_0 x4_1, I4 x0_0 x0_1 x3_0 x3_1 x4_0 x4_1 → (D.boo (fn 51 [[D.l [[D.i (a0_0.length : Int), D.i 1, D.i 30]]]] 0 0) = true) → ((a0_1.length : Int) = (a0_0.length : Int)) → (¬ x0_1 < (a0_0.length : Int)) → (¬ x3_1 < (((D.rows (fn 105 [[D.l a0_0]] 0 0))).length : Int)) → (¬ x4_1 < (a0_1.length : Int)) → R 0 0 = D.i 0
end HX

namespace HX
open Go Go.Proofs CX
structure V105 (a0 : Rows) (R : Nat → Nat → D) (I0 : Int → Int → Prop) (m0 : Int → Int → Nat) (I1 : Int → Int → Rows → Int → Prop) (m1 : Int → Int → Rows → Int → Nat) (I2 : Int → Int → Rows → Int → Prop) (m2 : Int → Int → Rows → Int → Nat) : Prop where
  i0 : I0 0 0
  g1 : ∀ x0_0 x0_1, I0 x0_0 x0_1 → (x0_1 < (a0.length : Int)) → 0 ≤ x0_1
  g2 : ∀ x0_0 x0_1, I0 x0_0 x0_1 → (x0_1 < (a0.length : Int)) → x0_1 < (a0.length : Int)
  g3 : ∀ x0_0 x0_1, I0 x0_0 x0_1 → (x0_1 < (a0.length : Int)) → -9223372036854775808 ≤ (x0_0 + ((((D.rows (gt a0 x0_1.toNat 0))).length : Int))) ∧ (x0_0 + ((((D.rows (gt a0 x0_1.toNat 0))).length : Int))) ≤ 9223372036854775807
  g4 : ∀ x0_0 x0_1, I0 x0_0 x0_1 → (x0_1 < (a0.length : Int)) → ((x0_0 + ((((D.rows (gt a0 x0_1.toNat 0))).length : Int))) < 0) → False
  g5 : ∀ x0_0 x0_1, I0 x0_0 x0_1 → (x0_1 < (a0.length : Int)) → (¬ (x0_0 + ((((D.rows (gt a0 x0_1.toNat 0))).length : Int))) < 0) → -9223372036854775808 ≤ (x0_1 + 1) ∧ (x0_1 + 1) ≤ 9223372036854775807
  n6 : ∀ x0_0 x0_1, I0 x0_0 x0_1 → (x0_1 < (a0.length : Int)) → (¬ (x0_0 + ((((D.rows (gt a0 x0_1.toNat 0))).length : Int))) < 0) → I0 (x0_0 + ((((D.rows (gt a0 x0_1.toNat 0))).length : Int))) (x0_1 + 1) ∧ m0 (x0_0 + ((((D.rows (gt a0 x0_1.toNat 0))).length : Int))) (x0_1 + 1) < m0 x0_0 x0_1
  g7 : ∀ x0_0 x0_1, I0 x0_0 x0_1 → (¬ x0_1 < (a0.length : Int)) → (x0_0 < 0) → False
  g8 : ∀ x0_0 x0_1, I0 x0_0 x0_1 → (¬ x0_1 < (a0.length : Int)) → (¬ x0_0 < 0) → -9223372036854775808 ≤ ((0 - 0) : Int) ∧ ((0 - 0) : Int) ≤ 9223372036854775807
  g9 : ∀ x0_0 x0_1, I0 x0_0 x0_1 → (¬ x0_1 < (a0.length : Int)) → (¬ x0_0 < 0) → -9223372036854775808 ≤ (x0_0 - (0 - 0)) ∧ (x0_0 - (0 - 0)) ≤ 9223372036854775807
  g10 : ∀ x0_0 x0_1, I0 x0_0 x0_1 → (¬ x0_1 < (a0.length : Int)) → (¬ x0_0 < 0) → (0 < (x0_0 - (0 - 0))) → (0 : Int) ≤ 0
  g11 : ∀ x0_0 x0_1, I0 x0_0 x0_1 → (¬ x0_1 < (a0.length : Int)) → (¬ x0_0 < 0) → (0 < (x0_0 - (0 - 0))) → 0 ≤ (((0 : Nat) : Int))
  g12 : ∀ x0_0 x0_1, I0 x0_0 x0_1 → (¬ x0_1 < (a0.length : Int)) → (¬ x0_0 < 0) → (0 < (x0_0 - (0 - 0))) → 0 ≤ (x0_0 - (0 - 0))
  g13 : ∀ x0_0 x0_1, I0 x0_0 x0_1 → (¬ x0_1 < (a0.length : Int)) → (¬ x0_0 < 0) → (0 < (x0_0 - (0 - 0))) → ((x0_0 - (0 - 0)) * (Int.ofNat 1)) ≤ 4096
  g14 : ∀ x0_0 x0_1, I0 x0_0 x0_1 → (¬ x0_1 < (a0.length : Int)) → (¬ x0_0 < 0) → (0 < (x0_0 - (0 - 0))) → (Int.toNat (x0_0 - (0 - 0))) * 8 ≤ 4294967296 ∧ (Int.toNat (x0_0 - (0 - 0))) ≤ 4294967296
  g16 : ∀ x0_0 x0_1, I0 x0_0 x0_1 → (¬ x0_1 < (a0.length : Int)) → (¬ x0_0 < 0) → (0 < (x0_0 - (0 - 0))) → 0 ≤ ((((List.replicate (Int.toNat (x0_0 - (0 - 0))) [D.i 0])).length : Int))
  i1 : ∀ x0_0 x0_1, I0 x0_0 x0_1 → (¬ x0_1 < (a0.length : Int)) → (¬ x0_0 < 0) → (0 < (x0_0 - (0 - 0))) → I1 x0_0 x0_1 (List.take (Int.toNat 0) (List.drop 0 (List.replicate (Int.toNat (x0_0 - (0 - 0))) [D.i 0]))) 0
  g18 : ∀ x0_0 x0_1, I0 x0_0 x0_1 → ∀ x1_0 x1_1, I1 x0_0 x0_1 x1_0 x1_1 → (¬ x0_1 < (a0.length : Int)) → (¬ x0_0 < 0) → (0 < (x0_0 - (0 - 0))) → (x1_1 < (a0.length : Int)) → 0 ≤ x1_1
  g19 : ∀ x0_0 x0_1, I0 x0_0 x0_1 → ∀ x1_0 x1_1, I1 x0_0 x0_1 x1_0 x1_1 → (¬ x0_1 < (a0.length : Int)) → (¬ x0_0 < 0) → (0 < (x0_0 - (0 - 0))) → (x1_1 < (a0.length : Int)) → x1_1 < (a0.length : Int)
  g20 : ∀ x0_0 x0_1, I0 x0_0 x0_1 → ∀ x1_0 x1_1, I1 x0_0 x0_1 x1_0 x1_1 → (¬ x0_1 < (a0.length : Int)) → (¬ x0_0 < 0) → (0 < (x0_0 - (0 - 0))) → (x1_1 < (a0.length : Int)) → (x1_0.length + (List.length ((D.rows (gt a0 x1_1.toNat 0)) : Rows))) * 8 ≤ 4294967296 ∧ (x1_0.length + (List.length ((D.rows (gt a0 x1_1.toNat 0)) : Rows))) ≤ 4294967296
  g21 : ∀ x0_0 x0_1, I0 x0_0 x0_1 → ∀ x1_0 x1_1, I1 x0_0 x0_1 x1_0 x1_1 → (¬ x0_1 < (a0.length : Int)) → (¬ x0_0 < 0) → (0 < (x0_0 - (0 - 0))) → (x1_1 < (a0.length : Int)) → -9223372036854775808 ≤ (x1_1 + 1) ∧ (x1_1 + 1) ≤ 9223372036854775807
  n22 : ∀ x0_0 x0_1, I0 x0_0 x0_1 → ∀ x1_0 x1_1, I1 x0_0 x0_1 x1_0 x1_1 → (¬ x0_1 < (a0.length : Int)) → (¬ x0_0 < 0) → (0 < (x0_0 - (0 - 0))) → (x1_1 < (a0.length : Int)) → I1 x0_0 x0_1 (x1_0 ++ (D.rows (gt a0 x1_1.toNat 0))) (x1_1 + 1) ∧ m1 x0_0 x0_1 (x1_0 ++ (D.rows (gt a0 x1_1.toNat 0))) (x1_1 + 1) < m1 x0_0 x0_1 x1_0 x1_1
  g23 : ∀ x0_0 x0_1, I0 x0_0 x0_1 → ∀ x1_0 x1_1, I1 x0_0 x0_1 x1_0 x1_1 → (¬ x0_1 < (a0.length : Int)) → (¬ x0_0 < 0) → (0 < (x0_0 - (0 - 0))) → (¬ x1_1 < (a0.length : Int)) → R 0 0 = D.l x1_0
  i2 : ∀ x0_0 x0_1, I0 x0_0 x0_1 → (¬ x0_1 < (a0.length : Int)) → (¬ x0_0 < 0) → (¬ 0 < (x0_0 - (0 - 0))) → I2 x0_0 x0_1 [] 0
  g25 : ∀ x0_0 x0_1, I0 x0_0 x0_1 → ∀ x2_0 x2_1, I2 x0_0 x0_1 x2_0 x2_1 → (¬ x0_1 < (a0.length : Int)) → (¬ x0_0 < 0) → (¬ 0 < (x0_0 - (0 - 0))) → (x2_1 < (a0.length : Int)) → 0 ≤ x2_1
  g26 : ∀ x0_0 x0_1, I0 x0_0 x0_1 → ∀ x2_0 x2_1, I2 x0_0 x0_1 x2_0 x2_1 → (¬ x0_1 < (a0.length : Int)) → (¬ x0_0 < 0) → (¬ 0 < (x0_0 - (0 - 0))) → (x2_1 < (a0.length : Int)) → x2_1 < (a0.length : Int)
  g27 : ∀ x0_0 x0_1, I0 x0_0 x0_1 → ∀ x2_0 x2_1, I2 x0_0 x0_1 x2_0 x2_1 → (¬ x0_1 < (a0.length : Int)) → (¬ x0_0 < 0) → (¬ 0 < (x0_0 - (0 - 0))) → (x2_1 < (a0.length : Int)) → (x2_0.length + (List.length ((D.rows (gt a0 x2_1.toNat 0)) : Rows))) * 8 ≤ 4294967296 ∧ (x2_0.length + (List.length ((D.rows (gt a0 x2_1.toNat 0)) : Rows))) ≤ 4294967296
  g28 : ∀ x0_0 x0_1, I0 x0_0 x0_1 → ∀ x2_0 x2_1, I2 x0_0 x0_1 x2_0 x2_1 → (¬ x0_1 < (a0.length : Int)) → (¬ x0_0 < 0) → (¬ 0 < (x0_0 - (0 - 0))) → (x2_1 < (a0.length : Int)) → -9223372036854775808 ≤ (x2_1 + 1) ∧ (x2_1 + 1) ≤ 9223372036854775807
  n29 : ∀ x0_0 x0_1, I0 x0_0 x0_1 → ∀ x2_0 x2_1, I2 x0_0 x0_1 x2_0 x2_1 → (¬ x0_1 < (a0.length : Int)) → (¬ x0_0 < 0) → (¬ 0 < (x0_0 - (0 - 0))) → (x2_1 < (a0.length : Int)) → I2 x0_0 x0_1 (x2_0 ++ (D.rows (gt a0 x2_1.toNat 0))) (x2_1 + 1) ∧ m2 x0_0 x0_1 (x2_0 ++ (D.rows (gt a0 x2_1.toNat 0))) (x2_1 + 1) < m2 x0_0 x0_1 x2_0 x2_1
  g30 : ∀ x0_0 x0_1, I0 x0_0 x0_1 → ∀ x2_0 x2_1, I2 x0_0 x0_1 x2_0 x2_1 → (¬ x0_1 < (a0.length : Int)) → (¬ x0_0 < 0) → (¬ 0 < (x0_0 - (0 - 0))) → (¬ x2_1 < (a0.length : Int)) → R 0 0 = D.l x2_0
end HX

namespace HX
open Go Go.Proofs CX
structure V69 (a0 : Rows) (R : Nat → Nat → D) (I0 : Rows → Int → Prop) (m0 : Rows → Int → Nat) : Prop where
  i0 : I0 [] 0
  g1 : ∀ x0_0 x0_1, I0 x0_0 x0_1 → (x0_1 < (a0.length : Int)) → 0 ≤ x0_1
  g2 : ∀ x0_0 x0_1, I0 x0_0 x0_1 → (x0_1 < (a0.length : Int)) → x0_1 < (a0.length : Int)
  g3 : ∀ x0_0 x0_1, I0 x0_0 x0_1 → (x0_1 < (a0.length : Int)) → (x0_0.length + (List.length ([[D.i ((((D.rows (gt a0 x0_1.toNat 0))).length : Int))]] : Rows))) * 8 ≤ 4294967296 ∧ (x0_0.length + (List.length ([[D.i ((((D.rows (gt a0 x0_1.toNat 0))).length : Int))]] : Rows))) ≤ 4294967296
  g4 : ∀ x0_0 x0_1, I0 x0_0 x0_1 → (x0_1 < (a0.length : Int)) → -9223372036854775808 ≤ (x0_1 + 1) ∧ (x0_1 + 1) ≤ 9223372036854775807
  n5 : ∀ x0_0 x0_1, I0 x0_0 x0_1 → (x0_1 < (a0.length : Int)) → I0 (x0_0 ++ [[D.i ((((D.rows (gt a0 x0_1.toNat 0))).length : Int))]]) (x0_1 + 1) ∧ m0 (x0_0 ++ [[D.i ((((D.rows (gt a0 x0_1.toNat 0))).length : Int))]]) (x0_1 + 1) < m0 x0_0 x0_1
  g6 : ∀ x0_0 x0_1, I0 x0_0 x0_1 → (¬ x0_1 < (a0.length : Int)) → R 0 0 = D.l x0_0
end HX

namespace HX
open Go Go.Proofs CX
structure V67 (a0 : Rows) (a1 : Rows) (R : Nat → Nat → D) (I0 : Int → Int → Prop) (m0 : Int → Int → Nat) : Prop where
  i0 : I0 0 0
  g1 : ∀ x0_0 x0_1, I0 x0_0 x0_1 → (x0_1 < (a1.length : Int)) → 0 ≤ x0_1
  g2 : ∀ x0_0 x0_1, I0 x0_0 x0_1 → (x0_1 < (a1.length : Int)) → x0_1 < (a1.length : Int)
  g4 : ∀ x0_0 x0_1, I0 x0_0 x0_1 → (x0_1 < (a1.length : Int)) → x0_1 < (a0.length : Int)
  g5 : ∀ x0_0 x0_1, I0 x0_0 x0_1 → (x0_1 < (a1.length : Int)) → (D.boo (gt a1 x0_1.toNat 0) = true) → -9223372036854775808 ≤ (x0_0 + (D.int (gt a0 x0_1.toNat 0))) ∧ (x0_0 + (D.int (gt a0 x0_1.toNat 0))) ≤ 9223372036854775807
  g6 : ∀ x0_0 x0_1, I0 x0_0 x0_1 → (x0_1 < (a1.length : Int)) → (D.boo (gt a1 x0_1.toNat 0) = true) → -9223372036854775808 ≤ (x0_1 + 1) ∧ (x0_1 + 1) ≤ 9223372036854775807
  n7 : ∀ x0_0 x0_1, I0 x0_0 x0_1 → (x0_1 < (a1.length : Int)) → (D.boo (gt a1 x0_1.toNat 0) = true) → I0 (x0_0 + (D.int (gt a0 x0_1.toNat 0))) (x0_1 + 1) ∧ m0 (x0_0 + (D.int (gt a0 x0_1.toNat 0))) (x0_1 + 1) < m0 x0_0 x0_1
  g8 : ∀ x0_0 x0_1, I0 x0_0 x0_1 → (x0_1 < (a1.length : Int)) → (D.boo (gt a1 x0_1.toNat 0) = false) → -9223372036854775808 ≤ (x0_0 + 0) ∧ (x0_0 + 0) ≤ 9223372036854775807
  g9 : ∀ x0_0 x0_1, I0 x0_0 x0_1 → (x0_1 < (a1.length : Int)) → (D.boo (gt a1 x0_1.toNat 0) = false) → -9223372036854775808 ≤ (x0_1 + 1) ∧ (x0_1 + 1) ≤ 9223372036854775807
  n10 : ∀ x0_0 x0_1, I0 x0_0 x0_1 → (x0_1 < (a1.length : Int)) → (D.boo (gt a1 x0_1.toNat 0) = false) → I0 (x0_0 + 0) (x0_1 + 1) ∧ m0 (x0_0 + 0) (x0_1 + 1) < m0 x0_0 x0_1
  g11 : ∀ x0_0 x0_1, I0 x0_0 x0_1 → (¬ x0_1 < (a1.length : Int)) → R 0 0 = D.i x0_0
end HX

namespace HX
open Go Go.Proofs CX
structure V74 (a0_0 : Int) (a0_1 : Int) (a0_2 : Int) (a0_3 : Int) (a0_4 : Int) (a1 : Rows) (R : Nat → Nat → D) (I0 : Rows → Int → Prop) (m0 : Rows → Int → Nat) : Prop where
  i0 : I0 [] 0
  g1 : ∀ x0_0 x0_1, I0 x0_0 x0_1 → (x0_1 < (a1.length : Int)) → 0 ≤ x0_1
  g2 : ∀ x0_0 x0_1, I0 x0_0 x0_1 → (x0_1 < (a1.length : Int)) → x0_1 < (a1.length : Int)
  g3 : ∀ x0_0 x0_1, I0 x0_0 x0_1 → (x0_1 < (a1.length : Int)) → -9223372036854775808 ≤ (x0_1 * a0_4) ∧ (x0_1 * a0_4) ≤ 9223372036854775807
  g4 : ∀ x0_0 x0_1, I0 x0_0 x0_1 → (x0_1 < (a1.length : Int)) → -9223372036854775808 ≤ (a0_3 + (x0_1 * a0_4)) ∧ (a0_3 + (x0_1 * a0_4)) ≤ 9223372036854775807
  g5 : ∀ x0_0 x0_1, I0 x0_0 x0_1 → (x0_1 < (a1.length : Int)) → (x0_0.length + (List.length [[D.i (a0_3 + (x0_1 * a0_4)), D.i a0_2, D.i (D.int (gt a1 x0_1.toNat 0)), D.i 1]])) * 32 ≤ 4294967296 ∧ (x0_0.length + (List.length [[D.i (a0_3 + (x0_1 * a0_4)), D.i a0_2, D.i (D.int (gt a1 x0_1.toNat 0)), D.i 1]])) ≤ 4294967296
  g6 : ∀ x0_0 x0_1, I0 x0_0 x0_1 → (x0_1 < (a1.length : Int)) → -9223372036854775808 ≤ (x0_1 + 1) ∧ (x0_1 + 1) ≤ 9223372036854775807
  n7 : ∀ x0_0 x0_1, I0 x0_0 x0_1 → (x0_1 < (a1.length : Int)) → I0 (x0_0 ++ [[D.i (a0_3 + (x0_1 * a0_4)), D.i a0_2, D.i (D.int (gt a1 x0_1.toNat 0)), D.i 1]]) (x0_1 + 1) ∧ m0 (x0_0 ++ [[D.i (a0_3 + (x0_1 * a0_4)), D.i a0_2, D.i (D.int (gt a1 x0_1.toNat 0)), D.i 1]]) (x0_1 + 1) < m0 x0_0 x0_1
  g8 : ∀ x0_0 x0_1, I0 x0_0 x0_1 → (¬ x0_1 < (a1.length : Int)) → R 0 0 = D.l x0_0
end HX

namespace HX
open Go Go.Proofs CX
structure V75 (a0_0 : Int) (a0_1 : Int) (a0_2 : Int) (a0_3 : Int) (a0_4 : Int) (a1 : Int) (a2 : Int) (R : Nat → Nat → D)  : Prop where
  g0 : R 0 0 = D.i a1
  g1 : R 0 1 = D.i a0_2
  g2 : R 0 2 = D.i a2
  g3 : R 0 3 = D.i 1
end HX

namespace HX
open Go Go.Proofs CX
structure V79 (pre : Nat → List (List D) → Prop) (fn : Nat → List (List D) → Nat → Nat → D) (a0 : Rows) (a1 : Int) (R : Nat → Nat → D) (I0 : Int → Int → Prop) (m0 : Int → Int → Nat) : Prop where
  i0 : I0 0 0
  g1 : ∀ x0_0 x0_1, I0 x0_0 x0_1 → (x0_1 < (a0.length : Int)) → 0 ≤ x0_1
  g2 : ∀ x0_0 x0_1, I0 x0_0 x0_1 → (x0_1 < (a0.length : Int)) → x0_1 < (a0.length : Int)
  g3 : ∀ x0_0 x0_1, I0 x0_0 x0_1 → (x0_1 < (a0.length : Int)) → pre 51 [[D.l [[D.i (D.int (gt a0 x0_1.toNat 0)), D.i 0, D.i a1]]]]
  g4 : ∀ x0_0 x0_1, I0 x0_0 x0_1 → (x0_1 < (a0.length : Int)) → (D.boo (fn 51 [[D.l [[D.i (D.int (gt a0 x0_1.toNat 0)), D.i 0, D.i a1]]]] 0 0) = false) → R 0 0 = D.b (!(decide (0 ≤ x0_1)))
  g5 : ∀ x0_0 x0_1, I0 x0_0 x0_1 → (x0_1 < (a0.length : Int)) → (D.boo (fn 51 [[D.l [[D.i (D.int (gt a0 x0_1.toNat 0)), D.i 0, D.i a1]]]] 0 0) = true) → -9223372036854775808 ≤ (x0_1 + 1) ∧ (x0_1 + 1) ≤ 9223372036854775807
  n6 : ∀ x0_0 x0_1, I0 x0_0 x0_1 → (x0_1 < (a0.length : Int)) → (D.boo (fn 51 [[D.l [[D.i (D.int (gt a0 x0_1.toNat 0)), D.i 0, D.i a1]]]] 0 0) = true) → I0 x0_0 (x0_1 + 1) ∧ m0 x0_0 (x0_1 + 1) < m0 x0_0 x0_1
  g7 : ∀ x0_0 x0_1, I0 x0_0 x0_1 → (¬ x0_1 < (a0.length : Int)) → R 0 0 = D.b (!(decide ((0 : Int) ≤ (-1))))
end HX

namespace HX
open Go Go.Proofs CX
structure V80 (a0 : Rows) (a1 : Rows) (R : Nat → Nat → D) (I0 : Int → Int → Prop) (m0 : Int → Int → Nat) : Prop where
  i0 : I0 0 0
  g1 : ∀ x0_0 x0_1, I0 x0_0 x0_1 → (x0_1 < (a1.length : Int)) → 0 ≤ x0_1
  g2 : ∀ x0_0 x0_1, I0 x0_0 x0_1 → (x0_1 < (a1.length : Int)) → x0_1 < (a1.length : Int)
  g4 : ∀ x0_0 x0_1, I0 x0_0 x0_1 → (x0_1 < (a1.length : Int)) → x0_1 < (a0.length : Int)
  g5 : ∀ x0_0 x0_1, I0 x0_0 x0_1 → (x0_1 < (a1.length : Int)) → -9223372036854775808 ≤ ((D.int (gt a0 x0_1.toNat 0)) * (D.int (gt a1 x0_1.toNat 0))) ∧ ((D.int (gt a0 x0_1.toNat 0)) * (D.int (gt a1 x0_1.toNat 0))) ≤ 9223372036854775807
  g6 : ∀ x0_0 x0_1, I0 x0_0 x0_1 → (x0_1 < (a1.length : Int)) → -9223372036854775808 ≤ (x0_0 + ((D.int (gt a0 x0_1.toNat 0)) * (D.int (gt a1 x0_1.toNat 0)))) ∧ (x0_0 + ((D.int (gt a0 x0_1.toNat 0)) * (D.int (gt a1 x0_1.toNat 0)))) ≤ 9223372036854775807
  g7 : ∀ x0_0 x0_1, I0 x0_0 x0_1 → (x0_1 < (a1.length : Int)) → -9223372036854775808 ≤ (x0_1 + 1) ∧ (x0_1 + 1) ≤ 9223372036854775807
  n8 : ∀ x0_0 x0_1, I0 x0_0 x0_1 → (x0_1 < (a1.length : Int)) → I0 (x0_0 + ((D.int (gt a0 x0_1.toNat 0)) * (D.int (gt a1 x0_1.toNat 0)))) (x0_1 + 1) ∧ m0 (x0_0 + ((D.int (gt a0 x0_1.toNat 0)) * (D.int (gt a1 x0_1.toNat 0)))) (x0_1 + 1) < m0 x0_0 x0_1
  g9 : ∀ x0_0 x0_1, I0 x0_0 x0_1 → (¬ x0_1 < (a1.length : Int)) → R 0 0 = D.i x0_0
end HX

namespace HX
open Go Go.Proofs CX
structure V85 (a0 : Int) (R : Nat → Nat → D)  : Prop where
  g0 : R 0 0 = D.i 0
  g1 : R 0 1 = D.i 0
  g2 : R 0 2 = D.i 0
  g3 : R 0 3 = D.i a0
  g4 : R 0 4 = D.i 1
  g5 : R 0 5 = D.i 0
  g6 : R 0 6 = D.i (-1048576)
  g7 : R 0 7 = D.i 0
end HX

namespace HX
open Go Go.Proofs CX
structure V138 (a0 : Int) (R : Nat → Nat → D)  : Prop where
  g0 : -9223372036854775808 ≤ (0 - a0) ∧ (0 - a0) ≤ 9223372036854775807
  g1 : R 0 0 = D.i (mxI a0 (0 - a0))
end HX

namespace HX
open Go Go.Proofs CX

def wI (r : List D) : Int := (r.getD 0 .nil).int
theorem gt_wI (l : Rows) (q : Nat) : (gt l q 0).int = wI (l.getD q []) := rfl
theorem drop_row {l : Rows} {q : Nat} (h : q < l.length) : l.drop q = l.getD q [] :: l.drop (q + 1) := by
  rw [List.drop_eq_getElem_cons h, List.getD_eq_getElem?_getD, List.getElem?_eq_getElem h]; rfl
theorem row_mem {l : Rows} {q : Nat} (h : q < l.length) : l.getD q [] ∈ l := by
  rw [List.getD_eq_getElem?_getD, List.getElem?_eq_getElem h]; exact List.getElem_mem h
theorem drop_end {l : Rows} {q : Nat} (h : ¬ (q : Int) < ((l.length : Nat) : Int)) : l.drop q = [] := List.drop_of_length_le (by omega)

theorem mul_bd {a b : Int} (h1 : -32000 ≤ a) (h2 : a ≤ 32000) (h3 : 0 ≤ b) (h4 : b ≤ 64) : -2048000 ≤ a * b ∧ a * b ≤ 2048000 := by
  have e1 := Int.mul_le_mul_of_nonneg_right h2 h3
  have e2 := Int.mul_le_mul_of_nonneg_right h1 h3
  omega

def dot : Rows → Rows → Int → Int
  | r :: l, y :: m, s => dot l m (s + wI r * wI y)
  | _, _, s => s

def dotPre (w x : Rows) : Prop := w.length = x.length ∧ x.length ≤ 30 ∧ (∀ r ∈ w, -32000 ≤ wI r ∧ wI r ≤ 32000) ∧ ∀ r ∈ x, 0 ≤ wI r ∧ wI r ≤ 64

theorem law80 {a0 a1 : Rows} (h : dotPre a0 a1) {R : Nat → Nat → D} (hR : R 0 0 = .i (dot a0 a1 0)) :
    V80 a0 a1 R (fun s x => ∃ r : Nat, x = r ∧ r ≤ a1.length ∧ dot (a0.drop r) (a1.drop r) s = dot a0 a1 0 ∧ -(2048000 * (r : Int)) ≤ s ∧ s ≤ 2048000 * (r : Int)) (fun _ x => (a1.length - x).toNat) := by
  obtain ⟨h1, h2, h3, h4⟩ := h
  have hb : ∀ r : Nat, (r : Int) < ((a1.length : Nat) : Int) → -2048000 ≤ (gt a0 r 0).int * (gt a1 r 0).int ∧ (gt a0 r 0).int * (gt a1 r 0).int ≤ 2048000 := fun r hr =>
    mul_bd (h3 _ (row_mem (by omega))).1 (h3 _ (row_mem (by omega))).2 (h4 _ (row_mem (by omega))).1 (h4 _ (row_mem (by omega))).2
  constructor
  · exact ⟨0, rfl, by omega, rfl, by omega, by omega⟩
  all_goals (intro s x ⟨r, hx, hr, hd, hb1, hb2⟩ hlt; subst hx; (try simp only [Int.toNat_natCast] at *))
  all_goals (try have hb := hb r hlt)
  all_goals (try omega)
  · refine ⟨⟨r + 1, rfl, by omega, ?_, by omega, by omega⟩, by omega⟩
    rw [drop_row (by omega), drop_row (l := a1) (by omega)] at hd
    exact hd
  · rw [hR, ← hd, drop_end hlt]
    cases a0.drop r <;> rfl

def joinsL (number before step : Int) : Rows → Int → Rows
  | [], _ => []
  | r :: l, i => [.i (before + i * step), .i number, .i (wI r), .i 1] :: joinsL number before step l (i + 1)

theorem joinsL_len (number before step : Int) : ∀ (l : Rows) (i : Int), (joinsL number before step l i).length = l.length
  | [], _ => rfl
  | _ :: l, i => by simp [joinsL, joinsL_len number before step l]

def joinsPre (before step : Int) (w : Rows) : Prop := w.length ≤ 30 ∧ -1000 ≤ before ∧ before ≤ 1000 ∧ (step = 1 ∨ step = -1)

theorem law74 {a0_0 a0_1 a0_2 a0_3 a0_4 : Int} {a1 : Rows} (h : joinsPre a0_3 a0_4 a1) {R : Nat → Nat → D} (hR : R 0 0 = .l (joinsL a0_2 a0_3 a0_4 a1 0)) :
    V74 a0_0 a0_1 a0_2 a0_3 a0_4 a1 R (fun o x => ∃ r : Nat, x = r ∧ r ≤ a1.length ∧ o ++ joinsL a0_2 a0_3 a0_4 (a1.drop r) r = joinsL a0_2 a0_3 a0_4 a1 0 ∧ o.length = r) (fun _ x => (a1.length - x).toNat) := by
  obtain ⟨h1, h2, h3, h4⟩ := h
  have hs : ∀ r : Nat, r ≤ a1.length → -30 ≤ (r : Int) * a0_4 ∧ (r : Int) * a0_4 ≤ 30 := by
    intro r hr
    rcases h4 with rfl | rfl <;> omega
  constructor
  · exact ⟨0, rfl, by omega, rfl, rfl⟩
  all_goals (intro s x ⟨r, hx, hr, hd, hl⟩ hlt; subst hx; (try simp only [Int.toNat_natCast, List.length_cons, List.length_nil] at *))
  all_goals (try have hb := hs r hr)
  all_goals (try omega)
  · refine ⟨⟨r + 1, rfl, by omega, ?_, by simp; omega⟩, by omega⟩
    rw [drop_row (by omega)] at hd
    rw [List.append_assoc]
    exact hd
  · rw [hR, ← hd, drop_end hlt]
    simp [joinsL]

theorem law79 {pre : Nat → List (List D) → Prop} {fn : Nat → List (List D) → Nat → Nat → D} (hp : pre 51 = fun _ => True) (hf : fn 51 = holdRes) {a0 : Rows} {a1 : Int} (hlen : a0.length ≤ 9223372036854775807) {R : Nat → Nat → D}
    (hR : R 0 0 = .b (a0.all fun r => decide (0 ≤ wI r) && decide (wI r ≤ a1))) :
    V79 pre fn a0 a1 R (fun _ x => ∃ r : Nat, x = r ∧ r ≤ a0.length ∧ (a0.drop r).all (fun r => decide (0 ≤ wI r) && decide (wI r ≤ a1)) = a0.all fun r => decide (0 ≤ wI r) && decide (wI r ≤ a1)) (fun _ x => (a0.length - x).toNat) := by
  constructor
  · exact ⟨0, rfl, by omega, rfl⟩
  all_goals (intro s x ⟨r, hx, hr, hd⟩ hlt; subst hx; (try simp only [Int.toNat_natCast] at *))
  all_goals (try (intro hc; simp only [hf, holdRes, D.boo, List.all_cons, List.all_nil, within, List.getD_cons_zero, List.getD_cons_succ, D.int, Bool.and_true] at hc))
  all_goals (try omega)
  · rw [hp]; trivial
  · rw [hR, ← hd, drop_row (by omega), List.all_cons]
    have hc : (decide (0 ≤ wI (a0.getD r [])) && decide (wI (a0.getD r []) ≤ a1)) = false := hc
    rw [hc]
    have : (0 : Int) ≤ (r : Int) := by omega
    simp [this]
  · refine ⟨⟨r + 1, rfl, by omega, ?_⟩, by omega⟩
    rw [drop_row (by omega), List.all_cons] at hd
    have hc : (decide (0 ≤ wI (a0.getD r [])) && decide (wI (a0.getD r []) ≤ a1)) = true := hc
    rw [hc] at hd
    simpa using hd
  · rw [hR, ← hd, drop_end hlt]
    rfl

theorem law138 {a0 : Int} (h : -32000 ≤ a0 ∧ a0 ≤ 32000) {R : Nat → Nat → D} (hR : R 0 0 = .i (mxI a0 (0 - a0))) : V138 a0 R := ⟨by omega, hR⟩
end HX

namespace HX
open Go Go.Proofs CX

def lR (r : List D) : Rows := (r.getD 0 .nil).rows
theorem gt_lR (l : Rows) (q : Nat) : (gt l q 0).rows = lR (l.getD q []) := rfl
theorem int_i (n : Int) : (D.i n).int = n := rfl
theorem hold_t1 {fn : Nat → List (List D) → Nat → Nat → D} {f : Nat} (hf : fn f = holdRes) (x lo hi : Int) : ((fn f [[.l [[.i x, .i lo, .i hi]]]] 0 0).boo = true) = (lo ≤ x ∧ x ≤ hi) := by
  rw [hf]; simp [holdRes, D.boo, within, D.int]
theorem hold_f1 {fn : Nat → List (List D) → Nat → Nat → D} {f : Nat} (hf : fn f = holdRes) (x lo hi : Int) : ((fn f [[.l [[.i x, .i lo, .i hi]]]] 0 0).boo = false) = ¬ (lo ≤ x ∧ x ≤ hi) := by
  rw [hf]; simp only [holdRes, D.boo, List.all_cons, List.all_nil, within, List.getD_cons_zero, List.getD_cons_succ, D.int, Bool.and_true, Bool.and_eq_false_iff, decide_eq_false_iff_not]
  apply propext; omega
theorem hold_t2 {fn : Nat → List (List D) → Nat → Nat → D} {f : Nat} (hf : fn f = holdRes) (x lo hi x' lo' hi' : Int) : ((fn f [[.l [[.i x, .i lo, .i hi], [.i x', .i lo', .i hi']]]] 0 0).boo = true) = ((lo ≤ x ∧ x ≤ hi) ∧ lo' ≤ x' ∧ x' ≤ hi') := by
  rw [hf]; simp [holdRes, D.boo, within, D.int]
theorem hold_f2 {fn : Nat → List (List D) → Nat → Nat → D} {f : Nat} (hf : fn f = holdRes) (x lo hi x' lo' hi' : Int) : ((fn f [[.l [[.i x, .i lo, .i hi], [.i x', .i lo', .i hi']]]] 0 0).boo = false) = ¬ ((lo ≤ x ∧ x ≤ hi) ∧ lo' ≤ x' ∧ x' ≤ hi') := by
  rw [hf]; simp only [holdRes, D.boo, List.all_cons, List.all_nil, within, List.getD_cons_zero, List.getD_cons_succ, D.int, Bool.and_true, Bool.and_eq_false_iff, decide_eq_false_iff_not]
  apply propext; omega
theorem rows_l (x : Rows) : (D.l x).rows = x := rfl
def r75 : List (List D) → Nat → Nat → D
  | [[_, _, .i n, _, _], [.i f], [.i w]], _, j => [D.i f, .i n, .i w, .i 1].getD j .nil
  | _, _, _ => .nil
def szs (l : Rows) : Rows := l.map fun row => [.i (((lR row).length : Nat) : Int)]
theorem szs_gt {l : Rows} {r : Nat} (hr : r < l.length) : wI ((szs l).getD r []) = (((lR (l.getD r [])).length : Nat) : Int) := by
  simp [szs, wI, List.getD_eq_getElem?_getD, List.getElem?_map, List.getElem?_eq_getElem hr, D.int]
end HX

namespace HX
open Go Go.Proofs CX

def cat : Rows → Rows
  | [] => []
  | row :: r => lR row ++ cat r
theorem cat_drop {l : Rows} {q : Nat} (h : q < l.length) : cat (l.drop q) = lR (l.getD q []) ++ cat (l.drop (q + 1)) := by rw [drop_row h]; rfl

theorem law105 {a0 : Rows} (h : (cat a0).length ≤ 4096) (hlen : a0.length ≤ 9223372036854775807) {R : Nat → Nat → D} (hR : R 0 0 = .l (cat a0)) :
    V105 a0 R (fun s k => ∃ r : Nat, k = r ∧ r ≤ a0.length ∧ 0 ≤ s ∧ s + (((cat (a0.drop r)).length : Nat) : Int) = (((cat a0).length : Nat) : Int)) (fun _ k => (a0.length - k).toNat)
      (fun _ _ o k => ∃ r : Nat, k = r ∧ r ≤ a0.length ∧ o ++ cat (a0.drop r) = cat a0) (fun _ _ _ k => (a0.length - k).toNat)
      (fun _ _ o k => ∃ r : Nat, k = r ∧ r ≤ a0.length ∧ o ++ cat (a0.drop r) = cat a0) (fun _ _ _ k => (a0.length - k).toNat) := by
  constructor
  case i0 => exact ⟨0, rfl, by omega, by omega, by simp⟩
  all_goals (try (intro s k hI; obtain ⟨r, hk, hr, hs, ht⟩ := hI; subst hk; (try simp only [Int.toNat_natCast] at *)))
  all_goals (try (intro o k hI; obtain ⟨r2, hk, hr2, ho⟩ := hI; subst hk; (try simp only [Int.toNat_natCast] at *)))
  all_goals (intros; (try simp only [gt_lR] at *))
  all_goals (try (have hc := cat_drop (l := a0) (q := r) (by omega); have hc1 := congrArg List.length hc; rw [List.length_append] at hc1))
  all_goals (try (have hc2 := cat_drop (l := a0) (q := r2) (by omega); have hc3 := congrArg List.length hc2; rw [List.length_append] at hc3; have ho1 := congrArg List.length ho; rw [List.length_append] at ho1))
  all_goals (try omega)
  case n6 => exact ⟨⟨r + 1, rfl, by omega, by omega, by omega⟩, by omega⟩
  case g13 => show (s - (0 - 0)) * 1 ≤ 4096; omega
  case i1 => exact ⟨0, rfl, by omega, by simp⟩
  case i2 => exact ⟨0, rfl, by omega, by simp⟩
  case n22 => exact ⟨⟨r2 + 1, rfl, by omega, by rw [List.append_assoc, ← hc2]; exact ho⟩, by omega⟩
  case n29 => exact ⟨⟨r2 + 1, rfl, by omega, by rw [List.append_assoc, ← hc2]; exact ho⟩, by omega⟩
  case g23 => rw [hR, ← ho, drop_end (by omega)]; simp [cat]
  case g30 => rw [hR, ← ho, drop_end (by omega)]; simp [cat]

def yB (r : List D) : Bool := (r.getD 0 .nil).boo
theorem gt_yB (l : Rows) (q : Nat) : (gt l q 0).boo = yB (l.getD q []) := rfl
def dotB : Rows → Rows → Int → Int
  | r :: l, y :: m, s => dotB l m (if yB y = true then s + wI r else s)
  | _, _, s => s
def dotBPre (w x : Rows) : Prop := w.length = x.length ∧ x.length ≤ 30 ∧ ∀ r ∈ w, -32768 ≤ wI r ∧ wI r ≤ 32768

theorem law67 {a0 a1 : Rows} (h : dotBPre a0 a1) {R : Nat → Nat → D} (hR : R 0 0 = .i (dotB a0 a1 0)) :
    V67 a0 a1 R (fun s x => ∃ r : Nat, x = r ∧ r ≤ a1.length ∧ dotB (a0.drop r) (a1.drop r) s = dotB a0 a1 0 ∧ -(32768 * (r : Int)) ≤ s ∧ s ≤ 32768 * (r : Int)) (fun _ x => (a1.length - x).toNat) := by
  obtain ⟨h1, h2, h3⟩ := h
  have hb : ∀ r : Nat, (r : Int) < ((a1.length : Nat) : Int) → -32768 ≤ wI (a0.getD r []) ∧ wI (a0.getD r []) ≤ 32768 := fun r hr => h3 _ (row_mem (by omega))
  constructor
  case i0 => exact ⟨0, rfl, by omega, rfl, by omega, by omega⟩
  all_goals (intro s x ⟨r, hx, hr, hd, hb1, hb2⟩ hlt; subst hx; (try simp only [Int.toNat_natCast] at *))
  all_goals (try have hb := hb r hlt)
  all_goals (intros; (try simp only [gt_wI, gt_yB] at *))
  all_goals (try omega)
  case n7 =>
    rename_i hy
    refine ⟨⟨r + 1, rfl, by omega, ?_, by omega, by omega⟩, by omega⟩
    rw [drop_row (by omega), drop_row (l := a1) (by omega)] at hd
    simp only [dotB, if_pos hy] at hd
    exact hd
  case n10 =>
    rename_i hy
    refine ⟨⟨r + 1, rfl, by omega, ?_, by omega, by omega⟩, by omega⟩
    rw [drop_row (by omega), drop_row (l := a1) (by omega)] at hd
    simp only [dotB, if_neg (show ¬ yB (a1.getD r []) = true by rw [hy]; simp)] at hd
    rw [Int.add_zero]; exact hd
  case g11 =>
    rw [hR, ← hd, drop_end hlt]
    cases a0.drop r <;> rfl
end HX

namespace HX
open Go Go.Proofs CX

def lT (r : List D) : Rows := (r.getD 1 .nil).rows
theorem gt_lT (l : Rows) (q : Nat) : (gt l q 1).rows = lT (l.getD q []) := rfl
def rowN (n : Int) (r : List D) : Bool := decide ((((lR r).length : Nat) : Int) = n)
def inW (r : List D) : Bool := decide (-32768 ≤ wI r ∧ wI r ≤ 32768)
def inT (r : List D) : Bool := decide (-32767 ≤ wI r ∧ wI r ≤ 32769)
def lErr (w t : Rows) (n : Int) : Int :=
  if 1 ≤ w.length ∧ w.length ≤ 30 then (if t.length = w.length then (if w.all (rowN n) = true then (if (cat w).all inW = true ∧ t.all inT = true then 0 else 3) else 13) else 13) else 3
theorem all_ok {p : List D → Bool} {l : Rows} {q : Nat} (h : q < l.length) (hp : p (l.getD q []) = true) : (l.drop q).all p = (l.drop (q + 1)).all p := by
  rw [drop_row h, List.all_cons, hp, Bool.true_and]
theorem all_no {p : List D → Bool} {l : Rows} {q : Nat} (h : q < l.length) (hp : p (l.getD q []) = false) : (l.drop q).all p = false := by
  rw [drop_row h, List.all_cons, hp, Bool.false_and]
theorem cat_len {n : Int} (hn : n ≤ 30) : ∀ {w : Rows}, w.all (rowN n) = true → (((cat w).length : Nat) : Int) ≤ 30 * ((w.length : Nat) : Int)
  | [], _ => by simp [cat]
  | r :: w, h => by
    rw [List.all_cons, Bool.and_eq_true] at h
    have h1 := cat_len hn h.2
    have h2 : (((lR r).length : Nat) : Int) = n := by simpa [rowN] using h.1
    simp only [cat, List.length_append, List.length_cons]
    omega
def p65 (d : List (List D)) : Prop := ((d.getD 1 []).getD 0 .nil).int ≤ 30

theorem law65 {pre : Nat → List (List D) → Prop} {fn : Nat → List (List D) → Nat → Nat → D} (hp : pre 51 = fun _ => True) (hf : fn 51 = holdRes)
    (hq : ∀ w, pre 105 [[.l w]] = ((cat w).length ≤ 4096)) (hg : ∀ w, fn 105 [[.l w]] 0 0 = .l (cat w))
    {w t : Rows} {n : Int} (hn : n ≤ 30) {R : Nat → Nat → D} (hR : R 0 0 = .i (lErr w t n)) :
    V65 pre fn w t n R (fun _ k => ∃ r : Nat, k = r ∧ r ≤ w.length ∧ (w.drop r).all (rowN n) = w.all (rowN n)) (fun _ k => (w.length - k).toNat)
      (fun _ _ _ _ => False) (fun _ _ _ _ => 0) (fun _ _ _ _ _ _ => False) (fun _ _ _ _ _ _ => 0)
      (fun _ _ _ k => w.all (rowN n) = true ∧ ∃ r : Nat, k = r ∧ r ≤ (cat w).length ∧ ((cat w).drop r).all inW = (cat w).all inW) (fun _ _ _ k => ((cat w).length - k).toNat)
      (fun _ _ _ _ _ k => w.all (rowN n) = true ∧ (cat w).all inW = true ∧ ∃ r : Nat, k = r ∧ r ≤ t.length ∧ (t.drop r).all inT = t.all inT) (fun _ _ _ _ _ k => (t.length - k).toNat) := by
  have gi : ∀ x : Rows, D.rows (.l x) = x := fun _ => rfl
  constructor
  all_goals (try (exfalso; intros; contradiction))
  all_goals (intros; (try simp only [hold_t1 hf, hold_f1 hf, hp, hq, hg, gi, gt_lR, gt_wI, Int.toNat_natCast] at *))
  all_goals (try trivial)
  all_goals (try omega)
  case g1 => rw [hR, lErr, if_neg (by omega)]
  case g2 => rw [hR, lErr, if_pos (by omega), if_neg (by omega)]
  case i0 => exact ⟨0, rfl, by omega, rfl⟩
  case g6 =>
    rename_i hI ht hlt hne _ hw; obtain ⟨r, hk, hr, ha⟩ := hI; subst hk
    rw [all_no (by omega) (by simpa [rowN] using hne)] at ha
    rw [hR, lErr, if_pos (by omega), if_pos (by omega), ← ha]; rfl
  case n24 =>
    rename_i hI ht hlt hne hw; obtain ⟨r, hk, hr, ha⟩ := hI; subst hk
    rw [all_ok (by omega) (by simpa [rowN] using hne)] at ha
    exact ⟨⟨r + 1, rfl, by omega, ha⟩, by omega⟩
  case' g26 =>
    rename_i hI ht hlt hw; obtain ⟨r, hk, hr, ha⟩ := hI; subst hk
    rw [drop_end hlt] at ha; have hc := cat_len hn ha.symm; omega
  case' i3 =>
    rename_i hI ht hlt hw; obtain ⟨r, hk, hr, ha⟩ := hI; subst hk
    rw [drop_end hlt] at ha
    exact ⟨ha.symm, 0, rfl, by omega, rfl⟩
  case' g31 =>
    rename_i hI _ _ hJ ht _ hw hlt hne; obtain ⟨ha, r, hk, hr, hb⟩ := hJ; subst hk
    rw [all_no (by omega) (by simpa [inW] using hne)] at hb
    rw [hR, lErr, if_pos (by omega), if_pos (by omega), if_pos ha, if_neg (by rw [← hb]; simp)]
  case' g32 =>
    rename_i hI _ _ hJ ht _ hw hlt hne; obtain ⟨ha, r, hk, hr, hb⟩ := hJ; subst hk
    have hc := cat_len hn ha; omega
  case' n33 =>
    rename_i hI _ _ hJ ht _ hw hlt hne; obtain ⟨ha, r, hk, hr, hb⟩ := hJ; subst hk
    rw [all_ok (by omega) (by simpa [inW] using hne)] at hb
    exact ⟨⟨ha, r + 1, rfl, by omega, hb⟩, by omega⟩
  case' i4 =>
    rename_i hI _ _ hJ ht _ hw hlt; obtain ⟨ha, r, hk, hr, hb⟩ := hJ; subst hk
    rw [drop_end hlt] at hb
    exact ⟨ha, hb.symm, 0, rfl, by omega, rfl⟩
  case' g38 =>
    rename_i hI _ _ hJ _ _ hL ht _ hlt hw _ hne; obtain ⟨ha, hb, r, hk, hr, hc⟩ := hL; subst hk
    rw [all_no (by omega) (by simpa [inT] using hne)] at hc
    rw [hR, lErr, if_pos (by omega), if_pos (by omega), if_pos ha, if_neg (by rw [← hc]; simp)]
  case' n40 =>
    rename_i hI _ _ hJ _ _ hL ht _ hlt hw _ hne; obtain ⟨ha, hb, r, hk, hr, hc⟩ := hL; subst hk
    rw [all_ok (by omega) (by simpa [inT] using hne)] at hc
    exact ⟨⟨ha, hb, r + 1, rfl, by omega, hc⟩, by omega⟩
  case' g41 =>
    rename_i hI _ _ hJ _ _ hL ht _ hlt hw _; obtain ⟨ha, hb, r, hk, hr, hc⟩ := hL; subst hk
    rw [drop_end hlt] at hc
    rw [hR, lErr, if_pos (by omega), if_pos (by omega), if_pos ha, if_pos ⟨hb, hc.symm⟩]
end HX

namespace HX
open Go Go.Proofs CX

def laysErr : Rows → Int → Int
  | [], _ => 0
  | l :: r, n => if lErr (lR l) (lT l) n = 0 then laysErr r (((lR l).length : Nat) : Int) else lErr (lR l) (lT l) n
def netErr (n : Int) (l : Rows) : Int := if 1 ≤ n ∧ n ≤ 30 then (if 1 ≤ l.length ∧ l.length ≤ 8 then laysErr l n else 9) else 3
theorem lErr_len {w t : Rows} {n : Int} (h : lErr w t n = 0) : 1 ≤ w.length ∧ w.length ≤ 30 := by
  unfold lErr at h; split at h
  · assumption
  · exact absurd h (by decide)
theorem lays_no {l : Rows} {q : Nat} {n e : Int} (h : q < l.length) (he : lErr (lR (l.getD q [])) (lT (l.getD q [])) n = e) (h0 : e ≠ 0) : laysErr (l.drop q) n = e := by
  rw [drop_row h, laysErr, he, if_neg h0]
theorem lays_ok {l : Rows} {q : Nat} {n : Int} (h : q < l.length) (he : lErr (lR (l.getD q [])) (lT (l.getD q [])) n = 0) : laysErr (l.drop q) n = laysErr (l.drop (q + 1)) (((lR (l.getD q [])).length : Nat) : Int) := by
  rw [drop_row h, laysErr, if_pos he]

theorem law63 {pre : Nat → List (List D) → Prop} {fn : Nat → List (List D) → Nat → Nat → D} (hp : pre 51 = fun _ => True) (hf : fn 51 = holdRes)
    (hq : ∀ w t n, pre 65 [[.l w, .l t], [.i n]] = (n ≤ 30)) (hg : ∀ w t n, fn 65 [[.l w, .l t], [.i n]] 0 0 = .i (lErr w t n))
    {n : Int} {l : Rows} {R : Nat → Nat → D} (hR : R 0 0 = .i (netErr n l)) :
    V63 pre fn n l R (fun _ b k => ∃ r : Nat, k = r ∧ r ≤ l.length ∧ b ≤ 30 ∧ laysErr (l.drop r) b = laysErr l n) (fun _ _ k => (l.length - k).toNat) := by
  constructor
  all_goals (intros; (try simp only [hold_t1 hf, hold_f1 hf, hp, hq, hg, int_i, gt_lR, gt_lT] at *))
  all_goals (try trivial)
  all_goals (try omega)
  case g1 => rw [hR, netErr, if_neg (by omega)]
  case g3 => rw [hR, netErr, if_pos (by omega), if_neg (by omega)]
  case i0 => exact ⟨0, rfl, by omega, by omega, rfl⟩
  case g8 =>
    rename_i hI hlt hn hl he; obtain ⟨r, hk, hr, hb, hd⟩ := hI; subst hk
    rw [Int.toNat_natCast] at he ⊢
    rw [hR, netErr, if_pos hn, if_pos (by omega), ← hd, lays_no (by omega) rfl he]
  case n10 =>
    rename_i hI hlt hn hl he; obtain ⟨r, hk, hr, hb, hd⟩ := hI; subst hk
    rw [Int.toNat_natCast] at he ⊢
    rw [lays_ok (by omega) he] at hd
    exact ⟨⟨r + 1, rfl, by omega, by have := lErr_len he; omega, hd⟩, by omega⟩
  case g11 =>
    rename_i hI hlt hn hl; obtain ⟨r, hk, hr, hb, hd⟩ := hI; subst hk
    rw [drop_end hlt] at hd
    rw [hR, netErr, if_pos hn, if_pos (by omega), ← hd]; rfl
end HX

namespace HX
open Go Go.Proofs CX

def goodL (w t : Rows) : Bool := (cat w).all inW && t.all inT
theorem all_at {p : List D → Bool} {l : Rows} {q : Nat} (h : q < l.length) (ha : l.all p = true) : p (l.getD q []) = true := List.all_eq_true.mp ha _ (row_mem h)
theorem lErr_good {w t : Rows} {n : Int} (h1 : 1 ≤ w.length ∧ w.length ≤ 30) (h2 : t.length = w.length) (h3 : w.all (rowN n) = true) : lErr w t n = if goodL w t = true then 0 else 3 := by
  rw [lErr, if_pos h1, if_pos h2, if_pos h3]; unfold goodL; simp only [Bool.and_eq_true]
theorem good_w {w t : Rows} {q : Nat} (h : q < w.length) : goodL (w.drop q) (t.drop q) = ((lR (w.getD q [])).all inW && goodL (w.drop (q + 1)) (t.drop q)) := by
  rw [goodL, goodL, drop_row h, cat, List.all_append, Bool.and_assoc]
theorem good_t {w t : Rows} {q : Nat} (h : q < t.length) : goodL w (t.drop q) = (inT (t.getD q []) && goodL w (t.drop (q + 1))) := by
  rw [goodL, goodL, drop_row h, List.all_cons, Bool.and_left_comm]
section
variable (a0 : Int) (l : Rows)
def tW (k : Int) : Rows := lR (l.getD k.toNat [])
def tT (k : Int) : Rows := lT (l.getD k.toNat [])
def tI0 (n k : Int) : Prop := ∃ r : Nat, k = r ∧ r ≤ l.length ∧ n ≤ 30 ∧ laysErr (l.drop r) n = netErr a0 l
def tI1 (n k q : Int) : Prop := ∃ r : Nat, q = r ∧ r ≤ (tW l k).length ∧ ((tW l k).drop r).all (rowN n) = (tW l k).all (rowN n)
def tI2 (n k q : Int) : Prop := (tW l k).all (rowN n) = true ∧ ∃ r : Nat, q = r ∧ r ≤ (tW l k).length ∧ goodL ((tW l k).drop r) ((tT l k).drop r) = goodL (tW l k) (tT l k)
def tI3 (n k j q : Int) : Prop := (((lR ((tW l k).getD j.toNat [])).length : Nat) : Int) = n ∧ ∃ r : Nat, q = r ∧ (r : Int) ≤ n ∧
  (((lR ((tW l k).getD j.toNat [])).drop r).all inW && goodL ((tW l k).drop (j.toNat + 1)) ((tT l k).drop j.toNat)) = goodL (tW l k) (tT l k)
end
theorem law68 {n : Int} {l : Rows} {R : Nat → Nat → D} (hR : R 0 0 = .i (netErr n l)) :
    V68 n l R (fun _ b k => tI0 n l b k) (fun _ _ k => (l.length - k).toNat)
      (fun _ b k _ q => tI1 l b k q) (fun _ _ k _ q => ((tW l k).length - q).toNat)
      (fun _ b k _ _ _ q => tI2 l b k q) (fun _ _ k _ _ _ q => ((tW l k).length - q).toNat)
      (fun _ b k _ _ _ j _ q => tI3 l b k j q) (fun _ b _ _ _ _ _ _ q => (b - q).toNat) := by
  constructor
  case g0 => intro h1 h2; rw [hR, netErr, if_neg (by omega)]
  case g1 => intro h1 h2 h3 h4; rw [hR, netErr, if_pos (by omega), if_neg (by omega)]
  case i0 => intro h1 h2 h3 h4; exact ⟨0, rfl, by omega, by omega, by rw [netErr, if_pos (by omega), if_pos (by omega)]; rfl⟩
  all_goals (try (intro _ b k hI; obtain ⟨r, hk, hr, hb, hd⟩ := hI; subst hk))
  all_goals (try (intro _ q hJ; obtain ⟨r1, hk, hr1, hd1⟩ := hJ; subst hk))
  all_goals (try (intro _ q hJ; obtain ⟨hw, r2, hk, hr2, hd2⟩ := hJ; subst hk))
  all_goals (try (intro _ q hJ; obtain ⟨hl, r3, hk, hr3, hd3⟩ := hJ; subst hk))
  all_goals (intros; (try simp only [tW, tT, Int.toNat_natCast, gt_lR, gt_lT, gt_wI] at *))
  all_goals (try omega)
  all_goals (try (have hfin : ∀ e : Int, lErr (lR (l.getD r [])) (lT (l.getD r [])) b = e → e ≠ 0 → R 0 0 = .i e := fun e he h0 => by rw [hR, ← hd, lays_no (by omega) he h0]))
  all_goals (try (have hgood := fun h1 h2 => lErr_good (w := lR (l.getD r [])) (t := lT (l.getD r [])) (n := b) h1 h2 hw))
  case g5 => exact hfin 3 (by rw [lErr, if_neg (by omega)]) (by decide)
  case g8 => exact hfin 13 (by rw [lErr, if_pos (by omega), if_neg (by omega)]) (by decide)
  case i1 => exact ⟨0, rfl, by omega, rfl⟩
  case g14 =>
    rename_i ht hlt hne
    rw [all_no (by omega) (by simpa [rowN] using hne)] at hd1
    exact hfin 13 (by rw [lErr, if_pos (by omega), if_pos (by omega), ← hd1]; rfl) (by decide)
  case n16 =>
    rename_i ht hlt hne
    rw [all_ok (by omega) (by simpa [rowN] using hne)] at hd1
    exact ⟨⟨r1 + 1, rfl, by simp only [tW, Int.toNat_natCast]; omega, hd1⟩, by omega⟩
  case i2 =>
    rename_i hlt
    rw [drop_end hlt] at hd1
    exact ⟨hd1.symm, 0, rfl, by omega, rfl⟩
  case i3 =>
    rename_i hlt
    have h0 := all_at (q := r2) (by omega) hw
    rw [good_w (by omega)] at hd2
    have h1 : (((lR ((lR (l.getD r [])).getD r2 [])).length : Nat) : Int) = b := of_decide_eq_true h0
    exact ⟨h1, 0, rfl, by omega, hd2⟩
  case g25 =>
    rename_i h1 h2
    rw [all_no (by omega) (by simp only [inW, decide_eq_false_iff_not]; omega), Bool.false_and] at hd3
    exact hfin 3 (by rw [hgood (by omega) (by omega), ← hd3]; rfl) (by decide)
  case g28 =>
    rename_i h1
    rw [all_no (by omega) (by simp only [inW, decide_eq_false_iff_not]; omega), Bool.false_and] at hd3
    exact hfin 3 (by rw [hgood (by omega) (by omega), ← hd3]; rfl) (by decide)
  case n27 =>
    rename_i h1 h2
    rw [all_ok (by omega) (by simp only [inW, decide_eq_true_eq]; omega)] at hd3
    exact ⟨⟨hl, r3 + 1, rfl, by omega, hd3⟩, by omega⟩
  case g33 =>
    rename_i h0 h1 h2
    rw [drop_end (by omega), List.all_nil, Bool.true_and, good_t (by omega), show inT ((lT (l.getD r [])).getD r2 []) = false by simp only [inT, decide_eq_false_iff_not]; omega, Bool.false_and] at hd3
    exact hfin 3 (by rw [hgood (by omega) (by omega), ← hd3]; rfl) (by decide)
  case g36 =>
    rename_i h0 h1
    rw [drop_end (by omega), List.all_nil, Bool.true_and, good_t (by omega), show inT ((lT (l.getD r [])).getD r2 []) = false by simp only [inT, decide_eq_false_iff_not]; omega, Bool.false_and] at hd3
    exact hfin 3 (by rw [hgood (by omega) (by omega), ← hd3]; rfl) (by decide)
  case n35 =>
    rename_i h0 h1 h2
    rw [drop_end (by omega), List.all_nil, Bool.true_and, good_t (by omega), show inT ((lT (l.getD r [])).getD r2 []) = true by simp only [inT, decide_eq_true_eq]; omega, Bool.true_and] at hd3
    exact ⟨⟨hw, r2 + 1, rfl, by simp only [tW, Int.toNat_natCast]; omega, hd3⟩, by omega⟩
  case n38 =>
    rename_i h0
    rw [drop_end h0, drop_end (by omega)] at hd2
    rw [lays_ok (by omega) (by rw [hgood (by omega) (by omega), ← hd2]; rfl)] at hd
    exact ⟨⟨r + 1, rfl, by omega, by omega, hd⟩, by omega⟩
  case g39 => exact hfin 3 (by rw [lErr, if_neg (by omega)]) (by decide)
  case g40 =>
    rename_i h0
    rw [drop_end h0] at hd
    rw [hR, ← hd]; rfl
  case g41 => rw [hR, netErr, if_pos (by omega), if_neg (by omega)]
  case g42 => rw [hR, netErr, if_neg (by omega)]
end HX

namespace HX
open Go Go.Proofs CX

def outs (x : Rows) : Rows → Rows → Rows
  | w :: ws, t :: ts => [.b (decide (wI t ≤ dotB (lR w) x 0))] :: outs x ws ts
  | _, _ => []
def nets : Rows → Rows → Rows
  | [], x => x
  | l :: r, x => nets r (outs x (lR l) (lT l))
theorem outs_len (x : Rows) : ∀ {w t : Rows}, t.length = w.length → (outs x w t).length = w.length
  | [], [], _ => rfl
  | [], _ :: _, h => by simp at h
  | _ :: _, [], h => by simp at h
  | _ :: w, _ :: t, h => by simp only [outs, List.length_cons] at h ⊢; rw [outs_len x (by omega)]
theorem outs_drop {x w t : Rows} {q : Nat} (h : q < w.length) (h2 : q < t.length) :
    outs x (w.drop q) (t.drop q) = [.b (decide (wI (t.getD q []) ≤ dotB (lR (w.getD q [])) x 0))] :: outs x (w.drop (q + 1)) (t.drop (q + 1)) := by
  rw [drop_row h, drop_row h2]; rfl
theorem lErr0 {w t : Rows} {n : Int} (h : lErr w t n = 0) : (1 ≤ w.length ∧ w.length ≤ 30) ∧ t.length = w.length ∧ w.all (rowN n) = true ∧ (cat w).all inW = true := by
  unfold lErr at h
  split at h
  · split at h
    · split at h
      · split at h
        · rename_i h1 h2 h3 h4; exact ⟨h1, h2, h3, h4.1⟩
        · exact absurd h (by decide)
      · exact absurd h (by decide)
    · exact absurd h (by decide)
  · exact absurd h (by decide)
theorem cat_mem {row : List D} : ∀ {w : Rows} {r : List D}, r ∈ w → row ∈ lR r → row ∈ cat w
  | a :: w, r, h, h2 => by
    rw [cat, List.mem_append]
    rcases List.mem_cons.mp h with rfl | h
    · exact .inl h2
    · exact .inr (cat_mem h h2)
theorem lErr_pre {w t x : Rows} {q : Nat} (h : lErr w t ((x.length : Nat) : Int) = 0) (hx : x.length ≤ 30) (hq : q < w.length) : dotBPre (lR (w.getD q [])) x := by
  obtain ⟨_, _, h3, h4⟩ := lErr0 h
  have h5 : (((lR (w.getD q [])).length : Nat) : Int) = ((x.length : Nat) : Int) := of_decide_eq_true (all_at hq h3)
  exact ⟨by omega, hx, fun r hr => of_decide_eq_true (List.all_eq_true.mp h4 _ (cat_mem (row_mem hq) hr))⟩
theorem lays0 {l : Rows} {q : Nat} {n : Int} (h : q < l.length) (h0 : laysErr (l.drop q) n = 0) : lErr (lR (l.getD q [])) (lT (l.getD q [])) n = 0 ∧ laysErr (l.drop (q + 1)) (((lR (l.getD q [])).length : Nat) : Int) = 0 := by
  rw [drop_row h, laysErr] at h0
  split at h0
  · exact ⟨‹_›, h0⟩
  · exact absurd h0 ‹_›
theorem net0 {n : Int} {l : Rows} (h : netErr n l = 0) : (1 ≤ n ∧ n ≤ 30) ∧ l.length ≤ 8 ∧ laysErr l n = 0 := by
  unfold netErr at h
  split at h
  · split at h
    · rename_i h1 h2; exact ⟨h1, by omega, h⟩
    · exact absurd h (by decide)
  · exact absurd h (by decide)

theorem law29 {pre : Nat → List (List D) → Prop} {fn : Nat → List (List D) → Nat → Nat → D} (hp : ∀ n l, pre 63 [[.i n], [.l l], [.nil], [.nil]] = True) (hf : ∀ n l, fn 63 [[.i n], [.l l], [.nil], [.nil]] 0 0 = .i (netErr n l))
    (hq : ∀ w x, pre 67 [[.l w], [.l x], [.nil]] = dotBPre w x) (hg : ∀ w x, fn 67 [[.l w], [.l x], [.nil]] 0 0 = .i (dotB w x 0))
    {l x0 : Rows} {R : Nat → Nat → D} (hR : R 0 0 = if netErr ((x0.length : Nat) : Int) l = 0 then .l (nets l x0) else .l []) (hR1 : R 1 0 = .i (netErr ((x0.length : Nat) : Int) l)) :
    V29 pre fn l x0 R (fun x k => ∃ r : Nat, k = r ∧ r ≤ l.length ∧ x.length ≤ 30 ∧ laysErr (l.drop r) ((x.length : Nat) : Int) = 0 ∧ nets (l.drop r) x = nets l x0) (fun _ k => (l.length - k).toNat)
      (fun x k o q => ∃ r : Nat, q = r ∧ r ≤ (lR (l.getD k.toNat [])).length ∧ o.length = r ∧ o ++ outs x ((lR (l.getD k.toNat [])).drop r) ((lT (l.getD k.toNat [])).drop r) = outs x (lR (l.getD k.toNat [])) (lT (l.getD k.toNat [])))
      (fun _ k _ q => ((lR (l.getD k.toNat [])).length - q).toNat) := by
  constructor
  case g0 => rw [hp]; trivial
  case g1 => intro h; rw [hf, int_i] at h; rw [hR, if_neg h]
  case g2 => intro h; rw [hf, int_i, hR1]
  case i0 => intro h; rw [hf, int_i] at h; obtain ⟨h1, h2, h3⟩ := net0 h; exact ⟨0, rfl, by omega, by omega, h3, rfl⟩
  all_goals (intro x k ⟨r, hk, hr, hx, he, hd⟩; subst hk)
  all_goals (try (intro o q ⟨r1, hk, hr1, ho, hd1⟩; subst hk))
  all_goals (intros; (try simp only [hf, hg, hq, int_i, gt_lR, gt_lT, gt_wI, Int.toNat_natCast, List.length_cons, List.length_nil] at *))
  all_goals (try omega)
  all_goals (try (have hlr := lays0 (l := l) (q := r) (by omega) he; obtain ⟨hl0, hl1⟩ := hlr; obtain ⟨hb, hb2, hb3, hb4⟩ := lErr0 hl0))
  all_goals (try omega)
  case i1 => exact ⟨0, rfl, by omega, rfl, rfl⟩
  case g9 => exact lErr_pre hl0 hx (by omega)
  case n14 =>
    rw [outs_drop (by omega) (by omega)] at hd1
    exact ⟨⟨r1 + 1, rfl, by omega, by simp [ho], by rw [List.append_assoc]; exact hd1⟩, by omega⟩
  case n16 =>
    rename_i hlt _
    rw [drop_end hlt] at hd1
    have hd2 : o = outs x (lR (l.getD r [])) (lT (l.getD r [])) := by rw [← hd1]; cases (lT (l.getD r [])).drop r1 <;> simp [outs]
    have hol : o.length = (lR (l.getD r [])).length := by rw [hd2, outs_len x hb2]
    rw [drop_row (by omega), nets, ← hd2] at hd
    exact ⟨⟨r + 1, rfl, by omega, by omega, by rw [hol]; exact hl1, hd⟩, by omega⟩
  case g15 => rename_i hn; have := (net0 hn).2.1; omega
  case g17 =>
    rename_i hlt hn
    rw [drop_end hlt, nets] at hd
    rw [hR, if_pos hn, hd]
  case g18 => rw [hR1]; congr 1
end HX

namespace HX
open Go Go.Proofs CX

theorem szs_drop {l : Rows} {q : Nat} (h : q < l.length) : szs (l.drop q) = [.i (((lR (l.getD q [])).length : Nat) : Int)] :: szs (l.drop (q + 1)) := by
  rw [drop_row h]; rfl

theorem law69 {a0 : Rows} (hlen : a0.length ≤ 4096) {R : Nat → Nat → D} (hR : R 0 0 = .l (szs a0)) :
    V69 a0 R (fun o k => ∃ r : Nat, k = r ∧ r ≤ a0.length ∧ o.length = r ∧ o ++ szs (a0.drop r) = szs a0) (fun _ k => (a0.length - k).toNat) := by
  constructor
  case i0 => exact ⟨0, rfl, by omega, rfl, rfl⟩
  all_goals (intro o k ⟨r, hk, hr, hl, ho⟩ hlt; subst hk; (try simp only [Int.toNat_natCast, gt_lR, List.length_cons, List.length_nil] at *))
  all_goals (try omega)
  case n5 =>
    refine ⟨⟨r + 1, rfl, by omega, by simp [hl], ?_⟩, by omega⟩
    rw [szs_drop (by omega)] at ho
    rw [List.append_assoc]; exact ho
  case g6 =>
    rw [hR, ← ho, drop_end hlt]; simp [szs]
end HX

namespace HX
open Go Go.Proofs CX
structure V71 (pre : Nat → List (List D) → Prop) (fn : Nat → List (List D) → Nat → Nat → D) (a0 : Rows) (a1 : Int) (R : Nat → Nat → D) (I0 : Int → Rows → Prop) (m0 : Int → Rows → Nat) : Prop where
  g0 : (a1 < 0) → False
  g1 : (¬ a1 < 0) → pre 106 [[D.i (Ar.std.wrap IntKind.u64 (a0.length : Int))], [D.i (Ar.std.wrap IntKind.u64 a1)]]
  g2 : (¬ a1 < 0) → (0 < (D.int (fn 106 [[D.i (Ar.std.wrap IntKind.u64 (a0.length : Int))], [D.i (Ar.std.wrap IntKind.u64 a1)]] 0 0))) → False
  g3 : (¬ a1 < 0) → (¬ 0 < (D.int (fn 106 [[D.i (Ar.std.wrap IntKind.u64 (a0.length : Int))], [D.i (Ar.std.wrap IntKind.u64 a1)]] 0 0))) → (9223372036854775807 < (D.int (fn 106 [[D.i (Ar.std.wrap IntKind.u64 (a0.length : Int))], [D.i (Ar.std.wrap IntKind.u64 a1)]] 1 0))) → False
  g4 : (¬ a1 < 0) → (¬ 0 < (D.int (fn 106 [[D.i (Ar.std.wrap IntKind.u64 (a0.length : Int))], [D.i (Ar.std.wrap IntKind.u64 a1)]] 0 0))) → (¬ 9223372036854775807 < (D.int (fn 106 [[D.i (Ar.std.wrap IntKind.u64 (a0.length : Int))], [D.i (Ar.std.wrap IntKind.u64 a1)]] 1 0))) → -9223372036854775808 ≤ (D.int (fn 106 [[D.i (Ar.std.wrap IntKind.u64 (a0.length : Int))], [D.i (Ar.std.wrap IntKind.u64 a1)]] 1 0)) ∧ (D.int (fn 106 [[D.i (Ar.std.wrap IntKind.u64 (a0.length : Int))], [D.i (Ar.std.wrap IntKind.u64 a1)]] 1 0)) ≤ 9223372036854775807
  g5 : (¬ a1 < 0) → (¬ 0 < (D.int (fn 106 [[D.i (Ar.std.wrap IntKind.u64 (a0.length : Int))], [D.i (Ar.std.wrap IntKind.u64 a1)]] 0 0))) → (¬ 9223372036854775807 < (D.int (fn 106 [[D.i (Ar.std.wrap IntKind.u64 (a0.length : Int))], [D.i (Ar.std.wrap IntKind.u64 a1)]] 1 0))) → 0 ≤ (D.int (fn 106 [[D.i (Ar.std.wrap IntKind.u64 (a0.length : Int))], [D.i (Ar.std.wrap IntKind.u64 a1)]] 1 0))
  g6 : (¬ a1 < 0) → (¬ 0 < (D.int (fn 106 [[D.i (Ar.std.wrap IntKind.u64 (a0.length : Int))], [D.i (Ar.std.wrap IntKind.u64 a1)]] 0 0))) → (¬ 9223372036854775807 < (D.int (fn 106 [[D.i (Ar.std.wrap IntKind.u64 (a0.length : Int))], [D.i (Ar.std.wrap IntKind.u64 a1)]] 1 0))) → (D.int (fn 106 [[D.i (Ar.std.wrap IntKind.u64 (a0.length : Int))], [D.i (Ar.std.wrap IntKind.u64 a1)]] 1 0)) ≤ (D.int (fn 106 [[D.i (Ar.std.wrap IntKind.u64 (a0.length : Int))], [D.i (Ar.std.wrap IntKind.u64 a1)]] 1 0))
  g7 : (¬ a1 < 0) → (¬ 0 < (D.int (fn 106 [[D.i (Ar.std.wrap IntKind.u64 (a0.length : Int))], [D.i (Ar.std.wrap IntKind.u64 a1)]] 0 0))) → (¬ 9223372036854775807 < (D.int (fn 106 [[D.i (Ar.std.wrap IntKind.u64 (a0.length : Int))], [D.i (Ar.std.wrap IntKind.u64 a1)]] 1 0))) → ((D.int (fn 106 [[D.i (Ar.std.wrap IntKind.u64 (a0.length : Int))], [D.i (Ar.std.wrap IntKind.u64 a1)]] 1 0)) * (Int.ofNat 8)) ≤ 4096
  g8 : (¬ a1 < 0) → (¬ 0 < (D.int (fn 106 [[D.i (Ar.std.wrap IntKind.u64 (a0.length : Int))], [D.i (Ar.std.wrap IntKind.u64 a1)]] 0 0))) → (¬ 9223372036854775807 < (D.int (fn 106 [[D.i (Ar.std.wrap IntKind.u64 (a0.length : Int))], [D.i (Ar.std.wrap IntKind.u64 a1)]] 1 0))) → ((D.int (fn 106 [[D.i (Ar.std.wrap IntKind.u64 (a0.length : Int))], [D.i (Ar.std.wrap IntKind.u64 a1)]] 1 0)) * (Int.ofNat 64)) ≤ 140737488355328
  i0 : (¬ a1 < 0) → (¬ 0 < (D.int (fn 106 [[D.i (Ar.std.wrap IntKind.u64 (a0.length : Int))], [D.i (Ar.std.wrap IntKind.u64 a1)]] 0 0))) → (¬ 9223372036854775807 < (D.int (fn 106 [[D.i (Ar.std.wrap IntKind.u64 (a0.length : Int))], [D.i (Ar.std.wrap IntKind.u64 a1)]] 1 0))) → I0 (mnI (a0.length : Int) ((((List.replicate (Int.toNat (D.int (fn 106 [[D.i (Ar.std.wrap IntKind.u64 (a0.length : Int))], [D.i (Ar.std.wrap IntKind.u64 a1)]] 1 0))) [D.i 0, D.i 0, D.i 0, D.i 0, D.i 0, D.i 0, D.i 0, D.i 0])).length : Int))) ((List.take 0 (List.drop 0 (List.replicate (Int.toNat (D.int (fn 106 [[D.i (Ar.std.wrap IntKind.u64 (a0.length : Int))], [D.i (Ar.std.wrap IntKind.u64 a1)]] 1 0))) [D.i 0, D.i 0, D.i 0, D.i 0, D.i 0, D.i 0, D.i 0, D.i 0]))) ++ ((List.take (Int.toNat (mnI (a0.length : Int) ((((List.replicate (Int.toNat (D.int (fn 106 [[D.i (Ar.std.wrap IntKind.u64 (a0.length : Int))], [D.i (Ar.std.wrap IntKind.u64 a1)]] 1 0))) [D.i 0, D.i 0, D.i 0, D.i 0, D.i 0, D.i 0, D.i 0, D.i 0])).length : Int)))) (List.drop 0 a0)) ++ (List.take ((List.length ((List.replicate (Int.toNat (D.int (fn 106 [[D.i (Ar.std.wrap IntKind.u64 (a0.length : Int))], [D.i (Ar.std.wrap IntKind.u64 a1)]] 1 0))) [D.i 0, D.i 0, D.i 0, D.i 0, D.i 0, D.i 0, D.i 0, D.i 0]) : Rows)) - (0 + (Int.toNat (mnI (a0.length : Int) ((((List.replicate (Int.toNat (D.int (fn 106 [[D.i (Ar.std.wrap IntKind.u64 (a0.length : Int))], [D.i (Ar.std.wrap IntKind.u64 a1)]] 1 0))) [D.i 0, D.i 0, D.i 0, D.i 0, D.i 0, D.i 0, D.i 0, D.i 0])).length : Int)))))) (List.drop (0 + (Int.toNat (mnI (a0.length : Int) ((((List.replicate (Int.toNat (D.int (fn 106 [[D.i (Ar.std.wrap IntKind.u64 (a0.length : Int))], [D.i (Ar.std.wrap IntKind.u64 a1)]] 1 0))) [D.i 0, D.i 0, D.i 0, D.i 0, D.i 0, D.i 0, D.i 0, D.i 0])).length : Int))))) (List.replicate (Int.toNat (D.int (fn 106 [[D.i (Ar.std.wrap IntKind.u64 (a0.length : Int))], [D.i (Ar.std.wrap IntKind.u64 a1)]] 1 0))) [D.i 0, D.i 0, D.i 0, D.i 0, D.i 0, D.i 0, D.i 0, D.i 0])))))
  g10 : ∀ x0_0 x0_1, I0 x0_0 x0_1 → (¬ a1 < 0) → (¬ 0 < (D.int (fn 106 [[D.i (Ar.std.wrap IntKind.u64 (a0.length : Int))], [D.i (Ar.std.wrap IntKind.u64 a1)]] 0 0))) → (¬ 9223372036854775807 < (D.int (fn 106 [[D.i (Ar.std.wrap IntKind.u64 (a0.length : Int))], [D.i (Ar.std.wrap IntKind.u64 a1)]] 1 0))) → (x0_0 < (x0_1.length : Int)) → 0 ≤ x0_0
  g11 : ∀ x0_0 x0_1, I0 x0_0 x0_1 → (¬ a1 < 0) → (¬ 0 < (D.int (fn 106 [[D.i (Ar.std.wrap IntKind.u64 (a0.length : Int))], [D.i (Ar.std.wrap IntKind.u64 a1)]] 0 0))) → (¬ 9223372036854775807 < (D.int (fn 106 [[D.i (Ar.std.wrap IntKind.u64 (a0.length : Int))], [D.i (Ar.std.wrap IntKind.u64 a1)]] 1 0))) → (x0_0 < (x0_1.length : Int)) → x0_0 ≤ (x0_1.length : Int)
  g14 : ∀ x0_0 x0_1, I0 x0_0 x0_1 → (¬ a1 < 0) → (¬ 0 < (D.int (fn 106 [[D.i (Ar.std.wrap IntKind.u64 (a0.length : Int))], [D.i (Ar.std.wrap IntKind.u64 a1)]] 0 0))) → (¬ 9223372036854775807 < (D.int (fn 106 [[D.i (Ar.std.wrap IntKind.u64 (a0.length : Int))], [D.i (Ar.std.wrap IntKind.u64 a1)]] 1 0))) → (x0_0 < (x0_1.length : Int)) → (x0_0.toNat + (x0_1.length - x0_0.toNat)) ≤ x0_1.length
  g15 : ∀ x0_0 x0_1, I0 x0_0 x0_1 → (¬ a1 < 0) → (¬ 0 < (D.int (fn 106 [[D.i (Ar.std.wrap IntKind.u64 (a0.length : Int))], [D.i (Ar.std.wrap IntKind.u64 a1)]] 0 0))) → (¬ 9223372036854775807 < (D.int (fn 106 [[D.i (Ar.std.wrap IntKind.u64 (a0.length : Int))], [D.i (Ar.std.wrap IntKind.u64 a1)]] 1 0))) → (x0_0 < (x0_1.length : Int)) → (0 + x0_0.toNat) ≤ x0_1.length
  g16 : ∀ x0_0 x0_1, I0 x0_0 x0_1 → (¬ a1 < 0) → (¬ 0 < (D.int (fn 106 [[D.i (Ar.std.wrap IntKind.u64 (a0.length : Int))], [D.i (Ar.std.wrap IntKind.u64 a1)]] 0 0))) → (¬ 9223372036854775807 < (D.int (fn 106 [[D.i (Ar.std.wrap IntKind.u64 (a0.length : Int))], [D.i (Ar.std.wrap IntKind.u64 a1)]] 1 0))) → (x0_0 < (x0_1.length : Int)) → -9223372036854775808 ≤ (x0_0 + (mnI (((List.take x0_0.toNat (List.drop 0 x0_1))).length : Int) (((x0_1.length - x0_0.toNat : Nat) : Int)))) ∧ (x0_0 + (mnI (((List.take x0_0.toNat (List.drop 0 x0_1))).length : Int) (((x0_1.length - x0_0.toNat : Nat) : Int)))) ≤ 9223372036854775807
  n17 : ∀ x0_0 x0_1, I0 x0_0 x0_1 → (¬ a1 < 0) → (¬ 0 < (D.int (fn 106 [[D.i (Ar.std.wrap IntKind.u64 (a0.length : Int))], [D.i (Ar.std.wrap IntKind.u64 a1)]] 0 0))) → (¬ 9223372036854775807 < (D.int (fn 106 [[D.i (Ar.std.wrap IntKind.u64 (a0.length : Int))], [D.i (Ar.std.wrap IntKind.u64 a1)]] 1 0))) → (x0_0 < (x0_1.length : Int)) → I0 (x0_0 + (mnI (((List.take x0_0.toNat (List.drop 0 x0_1))).length : Int) (((x0_1.length - x0_0.toNat : Nat) : Int)))) ((List.take x0_0.toNat (List.drop 0 x0_1)) ++ ((List.take (Int.toNat (mnI (((List.take x0_0.toNat (List.drop 0 x0_1))).length : Int) (((x0_1.length - x0_0.toNat : Nat) : Int)))) (List.drop 0 (List.take x0_0.toNat (List.drop 0 x0_1)))) ++ (List.take (x0_1.length - (x0_0.toNat + (Int.toNat (mnI (((List.take x0_0.toNat (List.drop 0 x0_1))).length : Int) (((x0_1.length - x0_0.toNat : Nat) : Int)))))) (List.drop (x0_0.toNat + (Int.toNat (mnI (((List.take x0_0.toNat (List.drop 0 x0_1))).length : Int) (((x0_1.length - x0_0.toNat : Nat) : Int))))) x0_1)))) ∧ m0 (x0_0 + (mnI (((List.take x0_0.toNat (List.drop 0 x0_1))).length : Int) (((x0_1.length - x0_0.toNat : Nat) : Int)))) ((List.take x0_0.toNat (List.drop 0 x0_1)) ++ ((List.take (Int.toNat (mnI (((List.take x0_0.toNat (List.drop 0 x0_1))).length : Int) (((x0_1.length - x0_0.toNat : Nat) : Int)))) (List.drop 0 (List.take x0_0.toNat (List.drop 0 x0_1)))) ++ (List.take (x0_1.length - (x0_0.toNat + (Int.toNat (mnI (((List.take x0_0.toNat (List.drop 0 x0_1))).length : Int) (((x0_1.length - x0_0.toNat : Nat) : Int)))))) (List.drop (x0_0.toNat + (Int.toNat (mnI (((List.take x0_0.toNat (List.drop 0 x0_1))).length : Int) (((x0_1.length - x0_0.toNat : Nat) : Int))))) x0_1)))) < m0 x0_0 x0_1
  g18 : ∀ x0_0 x0_1, I0 x0_0 x0_1 → (¬ a1 < 0) → (¬ 0 < (D.int (fn 106 [[D.i (Ar.std.wrap IntKind.u64 (a0.length : Int))], [D.i (Ar.std.wrap IntKind.u64 a1)]] 0 0))) → (¬ 9223372036854775807 < (D.int (fn 106 [[D.i (Ar.std.wrap IntKind.u64 (a0.length : Int))], [D.i (Ar.std.wrap IntKind.u64 a1)]] 1 0))) → (¬ x0_0 < (x0_1.length : Int)) → R 0 0 = D.l x0_1
end HX

namespace HX
open Go Go.Proofs CX
structure V106 (a0 : Int) (a1 : Int) (R : Nat → Nat → D)  : Prop where
  g0 : (0 : Int) ≤ 32
  g5 : R 0 0 = D.i (Ar.std.wrap IntKind.u64 ((Ar.std.wrap IntKind.u64 ((Ar.std.wrap IntKind.u64 ((Ar.std.shr IntKind.u64 a0 32) * (Ar.std.shr IntKind.u64 a1 32))) + (Ar.std.shr IntKind.u64 (Ar.std.wrap IntKind.u64 ((Ar.std.wrap IntKind.u64 ((Ar.std.shr IntKind.u64 a0 32) * (Ar.std.bit BinOp.and IntKind.u64 a1 4294967295))) + (Ar.std.shr IntKind.u64 (Ar.std.wrap IntKind.u64 ((Ar.std.bit BinOp.and IntKind.u64 a0 4294967295) * (Ar.std.bit BinOp.and IntKind.u64 a1 4294967295))) 32))) 32))) + (Ar.std.shr IntKind.u64 (Ar.std.wrap IntKind.u64 ((Ar.std.bit BinOp.and IntKind.u64 (Ar.std.wrap IntKind.u64 ((Ar.std.wrap IntKind.u64 ((Ar.std.shr IntKind.u64 a0 32) * (Ar.std.bit BinOp.and IntKind.u64 a1 4294967295))) + (Ar.std.shr IntKind.u64 (Ar.std.wrap IntKind.u64 ((Ar.std.bit BinOp.and IntKind.u64 a0 4294967295) * (Ar.std.bit BinOp.and IntKind.u64 a1 4294967295))) 32))) 4294967295) + (Ar.std.wrap IntKind.u64 ((Ar.std.bit BinOp.and IntKind.u64 a0 4294967295) * (Ar.std.shr IntKind.u64 a1 32))))) 32)))
  g6 : R 1 0 = D.i (Ar.std.wrap IntKind.u64 (a0 * a1))
end HX

namespace HX
open Go Go.Proofs CX

theorem wrap_u64 {n : Int} (h : 0 ≤ n) (h2 : n ≤ 4294967296) : Ar.std.wrap .u64 n = n := by
  show IntKind.wrap .u64 n = n
  simp [IntKind.wrap, IntKind.bits, IntKind.signed]; omega
theorem and32 {y : Int} (h : 0 ≤ y) (h2 : y ≤ 4294967295) : Ar.std.bit .and .u64 y 4294967295 = y := by
  obtain ⟨n, rfl⟩ : ∃ n : Nat, y = (n : Int) := ⟨y.toNat, by omega⟩
  have hn : n < 2 ^ 32 := by omega
  show IntKind.wrap .u64 ((BitVec.ofInt 64 (n : Int) &&& BitVec.ofInt 64 4294967295).toNat : Int) = n
  have e : (BitVec.ofInt 64 (n : Int) &&& BitVec.ofInt 64 4294967295).toNat = n := by
    rw [BitVec.toNat_and, BitVec.ofInt_natCast, show (4294967295 : Int) = ((4294967295 : Nat) : Int) from rfl, BitVec.ofInt_natCast, BitVec.toNat_ofNat, BitVec.toNat_ofNat,
      Nat.mod_eq_of_lt (show n < 2 ^ 64 by omega), show (4294967295 : Nat) % 2 ^ 64 = 2 ^ 32 - 1 by decide, Nat.and_two_pow_sub_one_eq_mod, Nat.mod_eq_of_lt hn]
  rw [e]
  exact wrap_u64 (n := (n : Int)) (by omega) (by omega)
theorem shr32 {y : Int} (h : 0 ≤ y) (h2 : y ≤ 4294967295) : Ar.std.shr .u64 y 32 = 0 := by
  show y.fdiv (2 ^ (Nat.min (Int.toNat 32) 64)) = 0
  rw [show (2 : Int) ^ (Nat.min (Int.toNat 32) 64) = 4294967296 by decide, Int.fdiv_eq_ediv_of_nonneg _ (by omega)]
  exact Int.ediv_eq_zero_of_lt h (by omega)

theorem law106 {x y : Int} (hx : x = 1) (h : 0 ≤ y ∧ y ≤ 4096) {R : Nat → Nat → D} (hR : R 0 0 = .i 0) (hR1 : R 1 0 = .i y) : V106 x y R := by
  subst hx
  constructor
  · omega
  · rw [hR, shr32 (y := 1) (by omega) (by omega), shr32 (y := y) (by omega) (by omega), and32 (y := 1) (by omega) (by omega), and32 (y := y) (by omega) (by omega)]
    rw [show (1 : Int) * y = y by omega, wrap_u64 (n := y) (by omega) (by omega), shr32 (y := y) (by omega) (by omega)]
    simp only [Int.zero_mul, Int.mul_zero, Int.add_zero, wrap_u64 (n := 0) (by omega) (by omega), shr32 (y := 0) (by omega) (by omega), and32 (y := 0) (by omega) (by omega)]
  · rw [hR1, show (1 : Int) * y = y by omega, wrap_u64 (n := y) (by omega) (by omega)]

theorem law71 {a0 : Rows} {a1 : Int} (h1 : a0.length = 1) (h2 : 1 ≤ a1 ∧ a1 ≤ 400) {pre : Nat → List (List D) → Prop} {fn : Nat → List (List D) → Nat → Nat → D} (hp : ∀ x y, pre 106 [[.i x], [.i y]] = (x = 1 ∧ 0 ≤ y ∧ y ≤ 4096)) (hf0 : ∀ x y, fn 106 [[.i x], [.i y]] 0 0 = .i 0) (hf1 : ∀ x y, fn 106 [[.i x], [.i y]] 1 0 = .i y)
    {R : Nat → Nat → D} (hR : R 0 0 = .l (List.replicate a1.toNat (a0.getD 0 []))) :
    V71 pre fn a0 a1 R (fun n rows => ∃ q : Nat, n = q ∧ 1 ≤ q ∧ q ≤ rows.length ∧ rows.length = a1.toNat ∧ rows.take q = List.replicate q (a0.getD 0 [])) (fun n rows => (rows.length - n).toNat) := by
  have hw : Ar.std.wrap .u64 a1 = a1 := wrap_u64 (by omega) (by omega)
  have hw1 : Ar.std.wrap .u64 ((a0.length : Nat) : Int) = 1 := by rw [h1]; exact wrap_u64 (by omega) (by omega)
  have e0 : a0 = [a0.getD 0 []] := by
    match a0, h1 with
    | [r], _ => rfl
  constructor
  all_goals (try (intro n rows ⟨q, hq, hq1, hq2, hl, ht⟩; subst hq))
  all_goals (intros; (try simp only [hp, hf0, hf1, hw, hw1, int_i, Int.toNat_natCast, mnI_eq, List.drop_zero, List.take_zero, List.nil_append, List.length_replicate, List.length_take, Nat.zero_add] at *))
  all_goals (try omega)
  case g1 => exact ⟨trivial, by omega, by omega⟩
  case g7 => show a1 * 8 ≤ 4096; omega
  case g8 => show a1 * 64 ≤ 140737488355328; omega
  case i0 =>
    have em : (min ((a0.length : Nat) : Int) ((a1.toNat : Nat) : Int)).toNat = 1 := by omega
    refine ⟨1, by omega, by omega, ?_, ?_, ?_⟩
    · simp only [em, List.length_append, List.length_take, List.length_drop, List.length_replicate]; omega
    · simp only [em, List.length_append, List.length_take, List.length_drop, List.length_replicate]; omega
    · rw [em, e0]; rfl
  case n17 =>
    have em : (min (((min q rows.length : Nat) : Nat) : Int) ((rows.length - q : Nat) : Int)).toNat = min q (rows.length - q) := by omega
    have l1 : (rows.take q).length = q := by rw [List.length_take]; omega
    obtain ⟨m, hm⟩ : ∃ m, m = min q (rows.length - q) := ⟨_, rfl⟩
    rw [← hm] at em
    have l2 : ((rows.take q).take m).length = m := by rw [List.length_take, l1]; omega
    rw [em]
    refine ⟨⟨q + m, by omega, by omega, ?_, ?_, ?_⟩, ?_⟩
    · simp only [List.length_append, l1, l2, List.length_take, List.length_drop]; omega
    · simp only [List.length_append, l1, l2, List.length_take, List.length_drop]; omega
    · rw [← List.append_assoc, List.take_append_of_le_length (by rw [List.length_append, l1, l2]; omega), List.take_of_length_le (by rw [List.length_append, l1, l2]; omega), ht, List.take_replicate, show min m q = m by omega, List.replicate_append_replicate]
    · simp only [List.length_append, l1, l2, List.length_take, List.length_drop]; omega
  case g18 =>
    rename_i hge
    rw [List.take_of_length_le (by omega)] at ht
    rw [hR, ht]; congr 1; congr 1; omega
end HX

namespace HX
open Go Go.Proofs CX

def gateD : List D := [.i 2, .i 256, .i 0, .i 1, .i 0, .i 0, .i 0, .i 0]
def clk (a0 all k : Int) : Int := if k = 0 then -1 - a0 else all + k - 1
def uC (cl before step : Int) : Rows → Rows → Int → Rows
  | w :: ws, t :: ts, num => joinsL num before step (lR w) 0 ++ ([[.i cl, .i num, .i (1 - wI t), .i 1]] ++ uC cl before step ws ts (num + 1))
  | _, _, _ => []
def lC (a0 all : Int) : Rows → Int → Int → Int → Int → Rows
  | [], _, _, _, _ => []
  | row :: r, k, num, before, step => uC (clk a0 all k) before step (lR row) (lT row) num ++ lC a0 all r (k + 1) (num + (((lR row).length : Nat) : Int)) num 1
def tC (a0 all : Int) : Nat → Int → Rows
  | 0, _ => []
  | n + 1, k => [.i (clk a0 all k), .i (clk a0 all (k + 1)), .i 1, .i 1] :: tC a0 all n (k + 1)
def tot : Rows → Int
  | [] => 0
  | row :: r => (((lR row).length : Nat) : Int) + tot r
def cvN (a0 : Int) (l : Rows) : Rows := if netErr a0 l = 0 then List.replicate (tot l + ((l.length : Nat) : Int) - 1).toNat gateD else []
def cvI (a0 : Int) (l : Rows) : Int := if netErr a0 l = 0 then a0 + 1 else 0
def cvS (a0 : Int) (l : Rows) : Rows := if netErr a0 l = 0 then lC a0 (tot l) l 0 0 (-1) (-1) ++ tC a0 (tot l) (l.length - 1) 0 else []

theorem tot_drop {l : Rows} {q : Nat} (h : q < l.length) : tot (l.drop q) = (((lR (l.getD q [])).length : Nat) : Int) + tot (l.drop (q + 1)) := by rw [drop_row h]; rfl
theorem tot_le {l : Rows} {n : Int} (h : laysErr l n = 0) : ((l.length : Nat) : Int) ≤ tot l ∧ tot l ≤ 30 * ((l.length : Nat) : Int) := by
  induction l generalizing n with
  | nil => simp [tot]
  | cons row r ih =>
    rw [laysErr] at h
    split at h
    · rename_i h1
      have := lErr_len h1
      have := ih h
      simp only [tot, List.length_cons]; omega
    · exact absurd h ‹_›

structure cI (a0 : Int) (a1 : Rows) (num before step k : Int) (S : Rows) (r : Nat) : Prop where
  pk : k = r
  pr : r ≤ a1.length
  pr8 : 1 ≤ a1.length ∧ a1.length ≤ 8
  pa : 1 ≤ a0 ∧ a0 ≤ 30
  pc : ∃ b, laysErr (a1.drop r) b = 0 ∧ 1 ≤ b ∧ b ≤ 30
  pn : 0 ≤ num ∧ num ≤ 30 * (r : Int)
  pbs : before = -1 ∧ step = -1 ∨ (0 ≤ before ∧ before ≤ 300) ∧ step = 1
  psl : ((S.length : Nat) : Int) ≤ 31 * num
  pS : S ++ lC a0 (tot a1) (a1.drop r) r num before step = lC a0 (tot a1) a1 0 0 (-1) (-1)
structure cJ (num0 before step cl : Int) (S0 ws ts : Rows) (num j : Int) (S : Rows) (q : Nat) : Prop where
  pj : j = q
  pq : q ≤ ws.length
  pn : num = num0 + q
  psl : ((S.length : Nat) : Int) ≤ ((S0.length : Nat) : Int) + 31 * q
  pS : S ++ uC cl before step (ws.drop q) (ts.drop q) num = S0 ++ uC cl before step ws ts num0

theorem cI.init {a0 : Int} {a1 : Rows} (h : netErr a0 a1 = 0) : cI a0 a1 0 (-1) (-1) 0 [] 0 := by
  obtain ⟨h1, h2, h3⟩ := net0 h
  have h4 : 1 ≤ a1.length := by
    unfold netErr at h; rw [if_pos h1] at h; split at h
    · rename_i hh; exact hh.1
    · exact absurd h (by decide)
  exact ⟨rfl, by omega, by omega, h1, ⟨a0, h3, by omega, by omega⟩, by omega, by omega, by simp, rfl⟩
theorem cI.facts {a0 : Int} {a1 : Rows} {num before step k : Int} {S : Rows} {r : Nat} (h : cI a0 a1 num before step k S r) (hr : r < a1.length) :
    (1 ≤ (lR (a1.getD r [])).length ∧ (lR (a1.getD r [])).length ≤ 30) ∧ (lT (a1.getD r [])).length = (lR (a1.getD r [])).length ∧ (∀ q, q < (lR (a1.getD r [])).length → (lR ((lR (a1.getD r [])).getD q [])).length ≤ 30) ∧
      (∀ q, q < (lR (a1.getD r [])).length → -32767 ≤ wI ((lT (a1.getD r [])).getD q []) ∧ wI ((lT (a1.getD r [])).getD q []) ≤ 32769) ∧ laysErr (a1.drop (r + 1)) (((lR (a1.getD r [])).length : Nat) : Int) = 0 := by
  obtain ⟨b, hc, h1, h2⟩ := h.pc
  obtain ⟨l0, l1⟩ := lays0 hr hc
  obtain ⟨e1, e2, e3, e4⟩ := lErr0 l0
  have e5 : (lT (a1.getD r [])).all inT = true := by
    unfold lErr at l0
    rw [if_pos e1, if_pos e2, if_pos e3] at l0
    split at l0
    · rename_i hh; exact hh.2
    · exact absurd l0 (by decide)
  refine ⟨e1, e2, fun q hq => ?_, fun q hq => of_decide_eq_true (all_at (by omega) e5), l1⟩
  have : (((lR ((lR (a1.getD r [])).getD q [])).length : Nat) : Int) = b := of_decide_eq_true (all_at hq e3)
  omega
theorem cJ.init {num0 before step cl : Int} {S0 ws ts : Rows} : cJ num0 before step cl S0 ws ts num0 0 S0 0 := ⟨rfl, by omega, by simp, by simp, rfl⟩
theorem cJ.next {num0 before step cl : Int} {S0 ws ts : Rows} {num j : Int} {S : Rows} {q : Nat} (g : cJ num0 before step cl S0 ws ts num j S q) (hq : q < ws.length) (hq2 : q < ts.length) (hw : (lR (ws.getD q [])).length ≤ 30)
    {S' : Rows} (hS : S' = S ++ (joinsL num before step (lR (ws.getD q [])) 0 ++ [[.i cl, .i num, .i (1 - wI (ts.getD q [])), .i 1]])) : cJ num0 before step cl S0 ws ts (num + 1) (j + 1) S' (q + 1) := by
  have eS := g.pS; have hj := g.pj; have hn := g.pn; have e4 := g.psl
  rw [drop_row hq, drop_row hq2] at eS
  refine ⟨by omega, by omega, by omega, ?_, ?_⟩
  · rw [hS]; simp only [List.length_append, joinsL_len, List.length_cons, List.length_nil]; omega
  · rw [hS, ← eS]; simp only [uC, List.append_assoc]
theorem cI.next {a0 : Int} {a1 : Rows} {num0 before step k : Int} {S0 : Rows} {r : Nat} (h : cI a0 a1 num0 before step k S0 r) (hr : r < a1.length)
    {num j : Int} {S : Rows} {q : Nat} (g : cJ num0 before step (clk a0 (tot a1) r) S0 (lR (a1.getD r [])) (lT (a1.getD r [])) num j S q) (hq : ¬ (q : Int) < (((lR (a1.getD r [])).length : Nat) : Int)) : cI a0 a1 num num0 1 (k + 1) S (r + 1) := by
  obtain ⟨f1, f2, f3, f4, f5⟩ := h.facts hr
  have hk := h.pk; have hn := h.pn; have hg := g.pn; have hq1 := g.pq; have h8 := h.pr8; have e2 := h.psl; have e4 := g.psl; have eS := g.pS
  rw [drop_end hq] at eS
  have eS : S = S0 ++ uC (clk a0 (tot a1) r) before step (lR (a1.getD r [])) (lT (a1.getD r [])) num0 := by simpa [uC] using eS
  have hS := h.pS
  rw [drop_row hr] at hS
  have hql : q = (lR (a1.getD r [])).length := by omega
  refine ⟨by rw [hk]; rfl, by omega, h8, h.pa, ⟨_, f5, by omega, by omega⟩, by omega, .inr ⟨by omega, rfl⟩, by omega, ?_⟩
  rw [eS, List.append_assoc, hg, hql]; exact hS

def p70 : List (List D) → Prop
  | [[.i k], [.i a], [.i n]] => -1000 ≤ k ∧ k ≤ 1000 ∧ -1000 ≤ a ∧ a ≤ 1000 ∧ -1000 ≤ n ∧ n ≤ 1000
  | _ => False
def r70 : List (List D) → Nat → Nat → D
  | [[.i k], [.i a], [.i n]], _, _ => .i (clk a n k)
  | _, _, _ => .nil
def r72 : List (List D) → Nat → Nat → D
  | [], _, j => gateD.getD j .nil
  | _, _, _ => .nil
theorem law70 {k a n : Int} (h : p70 [[.i k], [.i a], [.i n]]) {R : Nat → Nat → D} (hR : R 0 0 = .i (clk a n k)) : V70 k a n R := by
  simp only [p70] at h
  have e : ∀ x : Int, D.int (gt [[D.i x]] 0 0) = x := fun _ => rfl
  constructor
  · intro _; rw [e]; omega
  · intro h0; rw [e, hR, clk, if_pos h0]
  · intro _; rw [e]; omega
  · intro _; rw [e]; omega
  · intro h0; rw [e, hR, clk, if_neg h0]
end HX

namespace HX
open Go Go.Proofs CX

theorem tC_len (a0 all : Int) : ∀ (n : Nat) (k : Int), (tC a0 all n k).length = n
  | 0, _ => rfl
  | n + 1, k => by simp [tC, tC_len a0 all n]

theorem lays_all {l : Rows} {n : Int} (h : laysErr l n = 0) : ∀ r, r < l.length → 1 ≤ (lR (l.getD r [])).length ∧ (lR (l.getD r [])).length ≤ 30 := by
  induction l generalizing n with
  | nil => intro r hr; simp at hr
  | cons row rest ih =>
    intro r hr
    rw [laysErr] at h
    split at h
    · rename_i h1
      cases r with
      | zero => exact lErr_len h1
      | succ r => exact ih h r (by simpa using hr)
    · exact absurd h ‹_›
theorem szs_len (l : Rows) : (szs l).length = l.length := by simp [szs]

theorem law32 {pre : Nat → List (List D) → Prop} {fn : Nat → List (List D) → Nat → Nat → D} (hp63 : ∀ n l, pre 63 [[.i n], [.l l], [.nil], [.nil]] = True) (hf63 : ∀ n l, fn 63 [[.i n], [.l l], [.nil], [.nil]] 0 0 = .i (netErr n l))
    (hp69 : ∀ l : Rows, pre 69 [[.l l], [.nil]] = (l.length ≤ 4096)) (hf69 : ∀ l, fn 69 [[.l l], [.nil]] 0 0 = .l (szs l))
    (hp72 : pre 72 = fun _ => True) (hf72 : fn 72 = r72)
    (hp71 : ∀ (l : Rows) (n : Int), pre 71 [[.l l], [.i n]] = (l.length = 1 ∧ 1 ≤ n ∧ n ≤ 400)) (hf71 : ∀ l n, fn 71 [[.l l], [.i n]] 0 0 = .l (List.replicate n.toNat (l.getD 0 [])))
    (hp74 : ∀ k j n b s w, pre 74 [[.i k, .i j, .i n, .i b, .i s], [.l w]] = joinsPre b s w) (hf74 : ∀ k j n b s w, fn 74 [[.i k, .i j, .i n, .i b, .i s], [.l w]] 0 0 = .l (joinsL n b s w 0))
    (hp75 : pre 75 = fun _ => True) (hf75 : fn 75 = r75) (hp70 : ∀ k a n, pre 70 [[.i k], [.i a], [.i n]] = p70 [[.i k], [.i a], [.i n]]) (hf70 : ∀ k a n, fn 70 [[.i k], [.i a], [.i n]] 0 0 = .i (clk a n k))
    {a0 : Int} {a1 : Rows} {R : Nat → Nat → D} (hR0 : R 0 0 = .l (cvN a0 a1)) (hR1 : R 0 1 = .i (cvI a0 a1)) (hR2 : R 0 2 = .l (cvS a0 a1)) (hR3 : R 1 0 = .i (netErr a0 a1)) :
    V32 pre fn a0 a1 R (fun k s => ∃ r : Nat, k = r ∧ r ≤ a1.length ∧ 0 ≤ s ∧ s ≤ 30 * (r : Int) ∧ s + tot (a1.drop r) = tot a1) (fun k _ => (a1.length - k).toNat)
      (fun _ _ num before step k N inp S => N = cvN a0 a1 ∧ inp = a0 + 1 ∧ ∃ r, cI a0 a1 num before step k S r) (fun _ _ _ _ _ k _ _ _ => (a1.length - k).toNat)
      (fun _ _ num0 before step k N0 inp0 S0 num j N inp S => N = N0 ∧ inp = inp0 ∧ ∃ q, cJ num0 before step (clk a0 (tot a1) k) S0 (lR (a1.getD k.toNat [])) (lT (a1.getD k.toNat [])) num j S q) (fun _ _ _ _ _ k _ _ _ _ j _ _ _ => ((lR (a1.getD k.toNat [])).length - j).toNat)
      (fun _ _ _ _ _ _ N0 inp0 S0 k N inp S => N = N0 ∧ inp = inp0 ∧ ∃ r : Nat, k = r ∧ r ≤ a1.length - 1 ∧ ((S.length : Nat) : Int) ≤ ((S0.length : Nat) : Int) + r ∧ S ++ tC a0 (tot a1) (a1.length - 1 - r) r = S0 ++ tC a0 (tot a1) (a1.length - 1) 0) (fun _ _ _ _ _ _ _ _ _ k _ _ _ => (a1.length - 1 - k).toNat) := by
  constructor
  case g0 => rw [hp63]; trivial
  case g12 => intros; rw [hp72]; trivial
  case g31 => intros; rw [hp75]; trivial
  all_goals (try (intro k0 s0 hI0; obtain ⟨r0, hx0, hr0, hs1, hs2, hs3⟩ := hI0; subst hx0; (try simp only [Int.toNat_natCast] at *)))
  all_goals (try (intro num before step k N inp S hI1; obtain ⟨hN, hinp, r, hi1⟩ := hI1; have hk := hi1.pk; subst hk; subst hN; subst hinp; (try simp only [Int.toNat_natCast] at *)))
  all_goals (try (intro num2 j N2 inp2 S2 hI2; obtain ⟨hN2, hinp2, q, hj1⟩ := hI2; have hj := hj1.pj; subst hj; subst hinp2; subst hN2; (try simp only [Int.toNat_natCast] at *)))
  all_goals (try (intro k3 N3 inp3 S3 hI3; obtain ⟨hN3, hinp3, r3, hx3, hr3, hl3, hs3'⟩ := hI3; subst hx3; subst hinp3; subst hN3; (try simp only [Int.toNat_natCast] at *)))
  all_goals (intros; (try simp only [gt_lR, gt_lT, gt_wI, hf63, hf69, hp69, hp71, hf71, hf72, hp72, hf74, hp74, hf75, hf70, hp70, r75, r72, int_i, rows_l, List.length_cons, List.length_nil, List.getD_cons_zero, List.getD_cons_succ, List.length_append, joinsL_len, szs_len] at *))
  case g1 => rename_i h; rw [hR0, cvN, if_neg h]
  case g2 => rename_i h; rw [hR1, cvI, if_neg h]
  case g3 => rename_i h; rw [hR2, cvS, if_neg h]
  case g4 => exact hR3
  all_goals (have hnet := ‹netErr a0 a1 = 0›; have hn0 := net0 hnet; obtain ⟨c1, c2, c3⟩ := hn0; have htot := tot_le c3; have hcI := (cI.init hnet).pr8)
  all_goals (try omega)
  case i0 => exact ⟨0, rfl, by omega, by omega, by omega, by simp⟩
  all_goals (try (have hgt0 := szs_gt (l := a1) (r := r0) (by omega); rw [hgt0] at *))
  all_goals (try (have hd0 := tot_drop (l := a1) (q := r0) (by omega)))
  all_goals (try omega)
  case g9 => have := lays_all c3 r0 (by omega); omega
  case n11 => have := lays_all c3 r0 (by omega); exact ⟨⟨r0 + 1, by omega, by omega, by omega, by omega, by omega⟩, by omega⟩
  all_goals (rw [drop_end (by omega)] at hs3; have hs3 : s0 = tot a1 := by simpa [tot] using hs3)
  all_goals subst hs3
  case g15 => exact ⟨trivial, by omega, by omega⟩
  case i1 => exact ⟨by rw [cvN, if_pos hnet]; rfl, trivial, 0, cI.init hnet⟩
  all_goals (have b1 := hi1.pr; have b2 := hi1.pr8; have b3 := hi1.pa; have b4 := hi1.pn; have b5 := hi1.pbs; have b7 := hi1.psl)
  case i2 => exact ⟨trivial, trivial, 0, cJ.init⟩
  case i3 => exact ⟨trivial, trivial, 0, rfl, by omega, by omega, rfl⟩
  case g40 => exact ⟨by omega, by omega, by omega, by omega, by omega, by omega⟩
  case g42 => exact ⟨by omega, by omega, by omega, by omega, by omega, by omega⟩
  case g43 => omega
  case n45 =>
    refine ⟨⟨trivial, trivial, r3 + 1, rfl, by omega, by omega, ?_⟩, by omega⟩
    rw [show a1.length - 1 - r3 = (a1.length - 1 - (r3 + 1)) + 1 by omega, tC] at hs3'
    rw [List.append_assoc, ← hs3']; rfl
  case g47 => rw [hR1, cvI, if_pos hnet]
  case g48 =>
    have e := hi1.pS
    rw [drop_end (by omega), lC, List.append_nil] at e
    have e3 : r3 = a1.length - 1 := by omega
    subst e3
    rw [Nat.sub_self, tC, List.append_nil] at hs3'
    rw [hR2, cvS, if_pos hnet, hs3', e]
  case g49 => rw [hR3, hnet]
  all_goals (have hrl : r < a1.length := by omega)
  all_goals (obtain ⟨f1, f2, f3, f4, f5⟩ := hi1.facts hrl; have hsz := szs_gt hrl; have d1 := hj1.pq; have d2 := hj1.pn; have d4 := hj1.psl)
  all_goals (try simp only [hsz] at *)
  case n37 => exact ⟨⟨trivial, trivial, r + 1, hi1.next hrl hj1 (by omega)⟩, by omega⟩
  all_goals (have hql : q < (lR (a1.getD r [])).length := by omega)
  all_goals (have f3q := f3 q hql; have f4q := f4 q hql)
  all_goals (try omega)
  case g25 => exact ⟨by omega, by omega, by omega, by omega⟩
  case g27 => exact ⟨by omega, by omega, by omega, by omega, by omega, by omega⟩
  case n35 =>
    refine ⟨⟨trivial, trivial, q + 1, hj1.next hql (by omega) f3q ?_⟩, by omega⟩
    rw [List.append_assoc]
end HX

namespace HX
open Go Go.Proofs CX

abbrev stp (k : Int) : Int := if k = 0 then -1 else 1
abbrev bfr (k bf : Int) : Int := if k = 0 then -1 else bf

theorem law33 {pre : Nat → List (List D) → Prop} {fn : Nat → List (List D) → Nat → Nat → D} (hp68 : ∀ n l, pre 68 [[.i n], [.l l]] = True) (hf68 : ∀ n l, fn 68 [[.i n], [.l l]] 0 0 = .i (netErr n l))
    {a0 : Int} {a1 : Rows} {R : Nat → Nat → D} (hR0 : R 0 0 = .l (cvN a0 a1)) (hR1 : R 0 1 = .i (cvI a0 a1)) (hR2 : R 0 2 = .l (cvS a0 a1)) (hR3 : R 1 0 = .i (netErr a0 a1)) :
    V33 pre fn a0 a1 R (fun s k => ∃ r : Nat, k = r ∧ r ≤ a1.length ∧ 0 ≤ s ∧ s ≤ 30 * (r : Int) ∧ s + tot (a1.drop r) = tot a1) (fun _ k => (a1.length - k).toNat)
      (fun _ _ i N inp S => inp = a0 + 1 ∧ S = [] ∧ ∃ r : Nat, i = r ∧ (r : Int) ≤ tot a1 + a1.length - 1 ∧ N = List.replicate r gateD) (fun _ _ i _ _ _ => (tot a1 + a1.length - 1 - i).toNat)
      (fun _ _ _ _ _ _ bf first k S => 0 ≤ bf ∧ bf ≤ 300 ∧ ∃ r, cI a0 a1 first (bfr k bf) (stp k) k S r) (fun _ _ _ _ _ _ _ _ k _ => (a1.length - k).toNat)
      (fun _ _ _ _ _ _ bf first k S0 j S => ∃ q, cJ first (bfr k bf) (stp k) (clk a0 (tot a1) k) S0 (lR (a1.getD k.toNat [])) (lT (a1.getD k.toNat [])) (first + j) j S q) (fun _ _ _ _ _ _ _ _ k _ j _ => ((lR (a1.getD k.toNat [])).length - j).toNat)
      (fun _ _ _ _ _ _ bf first k _ j S1 i S => ∃ t : Nat, i = t ∧ t ≤ (lR ((lR (a1.getD k.toNat [])).getD j.toNat [])).length ∧ S.length = S1.length + t ∧
        S ++ joinsL (first + j) (bfr k bf) (stp k) ((lR ((lR (a1.getD k.toNat [])).getD j.toNat [])).drop t) t = S1 ++ joinsL (first + j) (bfr k bf) (stp k) (lR ((lR (a1.getD k.toNat [])).getD j.toNat [])) 0)
      (fun _ _ _ _ _ _ _ _ k _ j _ i _ => ((lR ((lR (a1.getD k.toNat [])).getD j.toNat [])).length - i).toNat)
      (fun _ _ _ _ _ _ _ _ _ S0 k S => ∃ r : Nat, k = r ∧ r ≤ a1.length - 1 ∧ ((S.length : Nat) : Int) ≤ ((S0.length : Nat) : Int) + r ∧ S ++ tC a0 (tot a1) (a1.length - 1 - r) r = S0 ++ tC a0 (tot a1) (a1.length - 1) 0) (fun _ _ _ _ _ _ _ _ _ _ k _ => (a1.length - 1 - k).toNat) := by
  constructor
  case g0 => rw [hp68]; trivial
  all_goals (try (intro s0 k0 hI0; obtain ⟨r0, hx0, hr0, hs1, hs2, hs3⟩ := hI0; subst hx0; (try simp only [Int.toNat_natCast] at *)))
  all_goals (try (intro i1 N inp S hI1; obtain ⟨hinp, hS1, r1, hi1, hr1, hN⟩ := hI1; subst hi1; subst hinp; subst hS1; subst hN; (try simp only [Int.toNat_natCast] at *)))
  all_goals (try (intro bf first k S2 hI2; obtain ⟨hb1, hb2, r, hi1⟩ := hI2; have hk := hi1.pk; subst hk; (try simp only [Int.toNat_natCast] at *)))
  all_goals (try (intro j S3 hI3; first | (obtain ⟨q, hj1⟩ := hI3; have hj := hj1.pj; subst hj) | (obtain ⟨r3, hx3, hr3, hl3, hs3'⟩ := hI3; subst hx3); (try simp only [Int.toNat_natCast] at *)))
  all_goals (try (intro i4 S4 hI4; obtain ⟨t, hx4, ht, hl4, hs4⟩ := hI4; subst hx4; (try simp only [Int.toNat_natCast] at *)))
  all_goals (intros; (try simp only [gt_lR, gt_lT, gt_wI, hf68, int_i, rows_l, Int.toNat_natCast, List.length_cons, List.length_nil, List.length_append, List.length_replicate] at *))
  case g1 => rename_i h; rw [hR0, cvN, if_neg h]
  case g2 => rename_i h; rw [hR1, cvI, if_neg h]
  case g3 => rename_i h; rw [hR2, cvS, if_neg h]
  case g4 => exact hR3
  all_goals (have hnet := ‹netErr a0 a1 = 0›; have hn0 := net0 hnet; obtain ⟨c1, c2, c3⟩ := hn0; have htot := tot_le c3; have hcI := (cI.init hnet).pr8)
  all_goals (try omega)
  case i0 => exact ⟨0, rfl, by omega, by omega, by omega, by simp⟩
  case g8 => have := lays_all c3 r0 (by omega); omega
  case n10 => have := lays_all c3 r0 (by omega); have hd0 := tot_drop (l := a1) (q := r0) (by omega); exact ⟨⟨r0 + 1, by omega, by omega, by omega, by omega, by omega⟩, by omega⟩
  all_goals (rw [drop_end (by omega)] at hs3; have hs3 : s0 = tot a1 := by simpa [tot] using hs3)
  all_goals subst hs3
  case i1 => exact ⟨trivial, trivial, 0, rfl, by omega, rfl⟩
  case n17 =>
    refine ⟨⟨trivial, trivial, r1 + 1, rfl, by omega, ?_⟩, by omega⟩
    rw [List.replicate_succ']; rfl
  all_goals (try omega)
  case i2 => exact ⟨by omega, by omega, 0, cI.init hnet⟩
  all_goals (have b1 := hi1.pr; have b2 := hi1.pr8; have b3 := hi1.pa; have b4 := hi1.pn; have b5 := hi1.pbs; have b7 := hi1.psl)
  case i5 => exact ⟨0, rfl, by omega, by omega, rfl⟩
  case n83 =>
    have h0 : (r3 : Int) = 0 := by assumption
    refine ⟨⟨r3 + 1, rfl, by omega, by omega, ?_⟩, by omega⟩
    rw [show a1.length - 1 - r3 = (a1.length - 1 - (r3 + 1)) + 1 by omega, tC] at hs3'
    rw [List.append_assoc, ← hs3', clk, if_pos h0, clk, if_neg (by omega), show tot a1 + ((r3 : Int) + 1) - 1 = tot a1 + r3 by omega]; rfl
  case n87 =>
    have h0 : ¬ (r3 : Int) = 0 := by assumption
    refine ⟨⟨r3 + 1, rfl, by omega, by omega, ?_⟩, by omega⟩
    rw [show a1.length - 1 - r3 = (a1.length - 1 - (r3 + 1)) + 1 by omega, tC] at hs3'
    rw [List.append_assoc, ← hs3', clk, if_neg h0, clk, if_neg (by omega), show tot a1 + ((r3 : Int) + 1) - 1 = tot a1 + r3 by omega]; rfl
  case g88 => rw [hR0, cvN, if_pos hnet]; congr 2; omega
  case g89 => rw [hR1, cvI, if_pos hnet]
  case g90 =>
    have e := hi1.pS
    rw [drop_end (by omega), lC, List.append_nil] at e
    have e3 : r3 = a1.length - 1 := by omega
    subst e3
    rw [Nat.sub_self, tC, List.append_nil] at hs3'
    rw [hR2, cvS, if_pos hnet, hs3', e]
  case g91 => rw [hR3, hnet]
  all_goals (try omega)
  case i3 => exact ⟨0, by rw [show first + 0 = first by omega]; exact cJ.init⟩
  all_goals (have hrl : r < a1.length := by omega)
  all_goals (obtain ⟨f1, f2, f3, f4, f5⟩ := hi1.facts hrl; have d1 := hj1.pq; have d2 := hj1.pn; have d4 := hj1.psl)
  case n74 =>
    have hq : q = (lR (a1.getD r [])).length := by omega
    have h := hi1.next hrl hj1 (by omega)
    refine ⟨⟨by omega, by omega, r + 1, ?_⟩, by omega⟩
    rw [bfr, stp, if_neg (by omega), if_neg (by omega), show first + (((lR (a1.getD r [])).length : Nat) : Int) = first + (q : Int) by omega]
    exact h
  all_goals (try omega)
  all_goals (have hql : q < (lR (a1.getD r [])).length := by omega)
  all_goals (have f3q := f3 q hql; have f4q := f4 q hql)
  all_goals (try omega)
  case i4 => exact ⟨0, rfl, by omega, rfl, rfl⟩
  case n38 =>
    have h0 : (r : Int) = 0 := by assumption
    refine ⟨⟨t + 1, rfl, by omega, by simp; omega, ?_⟩, by omega⟩
    rw [drop_row (by omega)] at hs4
    rw [List.append_assoc, ← hs4]
    simp only [joinsL, List.cons_append, List.nil_append, bfr, stp, if_pos h0]
    rw [show (-1 : Int) + (t : Int) * -1 = -1 - (t : Int) by omega]; rfl
  case n48 =>
    have h0 : ¬ (r : Int) = 0 := by assumption
    refine ⟨⟨t + 1, rfl, by omega, by simp; omega, ?_⟩, by omega⟩
    rw [drop_row (by omega)] at hs4
    rw [List.append_assoc, ← hs4]
    simp only [joinsL, List.cons_append, List.nil_append, bfr, stp, if_neg h0]
    rw [show bf + (t : Int) * 1 = bf + (t : Int) by omega]; rfl
  case n60 =>
    have h0 : (r : Int) = 0 := by assumption
    rw [drop_end (by omega), joinsL, List.append_nil] at hs4
    refine ⟨⟨q + 1, ?_⟩, by omega⟩
    rw [show first + ((q : Int) + 1) = first + (q : Int) + 1 by omega]
    refine hj1.next hql (by omega) f3q ?_
    rw [hs4, List.append_assoc, clk, if_pos h0]
  case n69 =>
    have h0 : ¬ (r : Int) = 0 := by assumption
    rw [drop_end (by omega), joinsL, List.append_nil] at hs4
    refine ⟨⟨q + 1, ?_⟩, by omega⟩
    rw [show first + ((q : Int) + 1) = first + (q : Int) + 1 by omega]
    refine hj1.next hql (by omega) f3q ?_
    rw [hs4, List.append_assoc, clk, if_neg h0]
end HX

namespace HX
open Go Go.Proofs CX
structure V30 (pre : Nat → List (List D) → Prop) (fn : Nat → List (List D) → Nat → Nat → D) (a0 : Rows) (a1 : Rows) (R : Nat → Nat → D) (I0 : Rows → Int → Prop) (m0 : Rows → Int → Nat) (I1 : Rows → Int → Rows → Int → Prop) (m1 : Rows → Int → Rows → Int → Nat) (I2 : Rows → Int → Rows → Int → Int → Int → Prop) (m2 : Rows → Int → Rows → Int → Int → Int → Nat) : Prop where
  g0 : pre 68 [[D.i (a1.length : Int)], [D.l a0]]
  g1 : (¬ (D.int (fn 68 [[D.i (a1.length : Int)], [D.l a0]] 0 0)) = 0) → R 0 0 = D.l []
  g2 : (¬ (D.int (fn 68 [[D.i (a1.length : Int)], [D.l a0]] 0 0)) = 0) → R 1 0 = D.i (D.int (fn 68 [[D.i (a1.length : Int)], [D.l a0]] 0 0))
  i0 : ((D.int (fn 68 [[D.i (a1.length : Int)], [D.l a0]] 0 0)) = 0) → I0 a1 0
  i1 : ∀ x0_0 x0_1, I0 x0_0 x0_1 → ((D.int (fn 68 [[D.i (a1.length : Int)], [D.l a0]] 0 0)) = 0) → (x0_1 < (a0.length : Int)) → I1 x0_0 x0_1 [] 0
  g5 : ∀ x0_0 x0_1, I0 x0_0 x0_1 → ∀ x1_0 x1_1, I1 x0_0 x0_1 x1_0 x1_1 → ((D.int (fn 68 [[D.i (a1.length : Int)], [D.l a0]] 0 0)) = 0) → (x0_1 < (a0.length : Int)) → 0 ≤ x0_1
  g6 : ∀ x0_0 x0_1, I0 x0_0 x0_1 → ∀ x1_0 x1_1, I1 x0_0 x0_1 x1_0 x1_1 → ((D.int (fn 68 [[D.i (a1.length : Int)], [D.l a0]] 0 0)) = 0) → (x0_1 < (a0.length : Int)) → x0_1 < (a0.length : Int)
  i2 : ∀ x0_0 x0_1, I0 x0_0 x0_1 → ∀ x1_0 x1_1, I1 x0_0 x0_1 x1_0 x1_1 → ((D.int (fn 68 [[D.i (a1.length : Int)], [D.l a0]] 0 0)) = 0) → (x0_1 < (a0.length : Int)) → (x1_1 < ((((D.rows (gt a0 x0_1.toNat 0))).length : Int))) → I2 x0_0 x0_1 x1_0 x1_1 0 0
  g8 : ∀ x0_0 x0_1, I0 x0_0 x0_1 → ∀ x1_0 x1_1, I1 x0_0 x0_1 x1_0 x1_1 → ∀ x2_0 x2_1, I2 x0_0 x0_1 x1_0 x1_1 x2_0 x2_1 → ((D.int (fn 68 [[D.i (a1.length : Int)], [D.l a0]] 0 0)) = 0) → (x0_1 < (a0.length : Int)) → (x1_1 < ((((D.rows (gt a0 x0_1.toNat 0))).length : Int))) → (x2_1 < (x0_0.length : Int)) → 0 ≤ x2_1
  g9 : ∀ x0_0 x0_1, I0 x0_0 x0_1 → ∀ x1_0 x1_1, I1 x0_0 x0_1 x1_0 x1_1 → ∀ x2_0 x2_1, I2 x0_0 x0_1 x1_0 x1_1 x2_0 x2_1 → ((D.int (fn 68 [[D.i (a1.length : Int)], [D.l a0]] 0 0)) = 0) → (x0_1 < (a0.length : Int)) → (x1_1 < ((((D.rows (gt a0 x0_1.toNat 0))).length : Int))) → (x2_1 < (x0_0.length : Int)) → x2_1 < (x0_0.length : Int)
  g10 : ∀ x0_0 x0_1, I0 x0_0 x0_1 → ∀ x1_0 x1_1, I1 x0_0 x0_1 x1_0 x1_1 → ∀ x2_0 x2_1, I2 x0_0 x0_1 x1_0 x1_1 x2_0 x2_1 → ((D.int (fn 68 [[D.i (a1.length : Int)], [D.l a0]] 0 0)) = 0) → (x0_1 < (a0.length : Int)) → (x1_1 < ((((D.rows (gt a0 x0_1.toNat 0))).length : Int))) → (x2_1 < (x0_0.length : Int)) → (D.boo (gt x0_0 x2_1.toNat 0) = true) → 0 ≤ x0_1
  g11 : ∀ x0_0 x0_1, I0 x0_0 x0_1 → ∀ x1_0 x1_1, I1 x0_0 x0_1 x1_0 x1_1 → ∀ x2_0 x2_1, I2 x0_0 x0_1 x1_0 x1_1 x2_0 x2_1 → ((D.int (fn 68 [[D.i (a1.length : Int)], [D.l a0]] 0 0)) = 0) → (x0_1 < (a0.length : Int)) → (x1_1 < ((((D.rows (gt a0 x0_1.toNat 0))).length : Int))) → (x2_1 < (x0_0.length : Int)) → (D.boo (gt x0_0 x2_1.toNat 0) = true) → x0_1 < (a0.length : Int)
  g12 : ∀ x0_0 x0_1, I0 x0_0 x0_1 → ∀ x1_0 x1_1, I1 x0_0 x0_1 x1_0 x1_1 → ∀ x2_0 x2_1, I2 x0_0 x0_1 x1_0 x1_1 x2_0 x2_1 → ((D.int (fn 68 [[D.i (a1.length : Int)], [D.l a0]] 0 0)) = 0) → (x0_1 < (a0.length : Int)) → (x1_1 < ((((D.rows (gt a0 x0_1.toNat 0))).length : Int))) → (x2_1 < (x0_0.length : Int)) → (D.boo (gt x0_0 x2_1.toNat 0) = true) → 0 ≤ x1_1
  g13 : ∀ x0_0 x0_1, I0 x0_0 x0_1 → ∀ x1_0 x1_1, I1 x0_0 x0_1 x1_0 x1_1 → ∀ x2_0 x2_1, I2 x0_0 x0_1 x1_0 x1_1 x2_0 x2_1 → ((D.int (fn 68 [[D.i (a1.length : Int)], [D.l a0]] 0 0)) = 0) → (x0_1 < (a0.length : Int)) → (x1_1 < ((((D.rows (gt a0 x0_1.toNat 0))).length : Int))) → (x2_1 < (x0_0.length : Int)) → (D.boo (gt x0_0 x2_1.toNat 0) = true) → x1_1 < ((((D.rows (gt a0 x0_1.toNat 0))).length : Int))
  g14 : ∀ x0_0 x0_1, I0 x0_0 x0_1 → ∀ x1_0 x1_1, I1 x0_0 x0_1 x1_0 x1_1 → ∀ x2_0 x2_1, I2 x0_0 x0_1 x1_0 x1_1 x2_0 x2_1 → ((D.int (fn 68 [[D.i (a1.length : Int)], [D.l a0]] 0 0)) = 0) → (x0_1 < (a0.length : Int)) → (x1_1 < ((((D.rows (gt a0 x0_1.toNat 0))).length : Int))) → (x2_1 < (x0_0.length : Int)) → (D.boo (gt x0_0 x2_1.toNat 0) = true) → 0 ≤ x2_1
  g15 : ∀ x0_0 x0_1, I0 x0_0 x0_1 → ∀ x1_0 x1_1, I1 x0_0 x0_1 x1_0 x1_1 → ∀ x2_0 x2_1, I2 x0_0 x0_1 x1_0 x1_1 x2_0 x2_1 → ((D.int (fn 68 [[D.i (a1.length : Int)], [D.l a0]] 0 0)) = 0) → (x0_1 < (a0.length : Int)) → (x1_1 < ((((D.rows (gt a0 x0_1.toNat 0))).length : Int))) → (x2_1 < (x0_0.length : Int)) → (D.boo (gt x0_0 x2_1.toNat 0) = true) → x2_1 < ((((D.rows (gt (D.rows (gt a0 x0_1.toNat 0)) x1_1.toNat 0))).length : Int))
  g16 : ∀ x0_0 x0_1, I0 x0_0 x0_1 → ∀ x1_0 x1_1, I1 x0_0 x0_1 x1_0 x1_1 → ∀ x2_0 x2_1, I2 x0_0 x0_1 x1_0 x1_1 x2_0 x2_1 → ((D.int (fn 68 [[D.i (a1.length : Int)], [D.l a0]] 0 0)) = 0) → (x0_1 < (a0.length : Int)) → (x1_1 < ((((D.rows (gt a0 x0_1.toNat 0))).length : Int))) → (x2_1 < (x0_0.length : Int)) → (D.boo (gt x0_0 x2_1.toNat 0) = true) → -9223372036854775808 ≤ (x2_0 + (D.int (gt (D.rows (gt (D.rows (gt a0 x0_1.toNat 0)) x1_1.toNat 0)) x2_1.toNat 0))) ∧ (x2_0 + (D.int (gt (D.rows (gt (D.rows (gt a0 x0_1.toNat 0)) x1_1.toNat 0)) x2_1.toNat 0))) ≤ 9223372036854775807
  g17 : ∀ x0_0 x0_1, I0 x0_0 x0_1 → ∀ x1_0 x1_1, I1 x0_0 x0_1 x1_0 x1_1 → ∀ x2_0 x2_1, I2 x0_0 x0_1 x1_0 x1_1 x2_0 x2_1 → ((D.int (fn 68 [[D.i (a1.length : Int)], [D.l a0]] 0 0)) = 0) → (x0_1 < (a0.length : Int)) → (x1_1 < ((((D.rows (gt a0 x0_1.toNat 0))).length : Int))) → (x2_1 < (x0_0.length : Int)) → (D.boo (gt x0_0 x2_1.toNat 0) = true) → -9223372036854775808 ≤ (x2_1 + 1) ∧ (x2_1 + 1) ≤ 9223372036854775807
  n18 : ∀ x0_0 x0_1, I0 x0_0 x0_1 → ∀ x1_0 x1_1, I1 x0_0 x0_1 x1_0 x1_1 → ∀ x2_0 x2_1, I2 x0_0 x0_1 x1_0 x1_1 x2_0 x2_1 → ((D.int (fn 68 [[D.i (a1.length : Int)], [D.l a0]] 0 0)) = 0) → (x0_1 < (a0.length : Int)) → (x1_1 < ((((D.rows (gt a0 x0_1.toNat 0))).length : Int))) → (x2_1 < (x0_0.length : Int)) → (D.boo (gt x0_0 x2_1.toNat 0) = true) → I2 x0_0 x0_1 x1_0 x1_1 (x2_0 + (D.int (gt (D.rows (gt (D.rows (gt a0 x0_1.toNat 0)) x1_1.toNat 0)) x2_1.toNat 0))) (x2_1 + 1) ∧ m2 x0_0 x0_1 x1_0 x1_1 (x2_0 + (D.int (gt (D.rows (gt (D.rows (gt a0 x0_1.toNat 0)) x1_1.toNat 0)) x2_1.toNat 0))) (x2_1 + 1) < m2 x0_0 x0_1 x1_0 x1_1 x2_0 x2_1
  g19 : ∀ x0_0 x0_1, I0 x0_0 x0_1 → ∀ x1_0 x1_1, I1 x0_0 x0_1 x1_0 x1_1 → ∀ x2_0 x2_1, I2 x0_0 x0_1 x1_0 x1_1 x2_0 x2_1 → ((D.int (fn 68 [[D.i (a1.length : Int)], [D.l a0]] 0 0)) = 0) → (x0_1 < (a0.length : Int)) → (x1_1 < ((((D.rows (gt a0 x0_1.toNat 0))).length : Int))) → (x2_1 < (x0_0.length : Int)) → (D.boo (gt x0_0 x2_1.toNat 0) = false) → -9223372036854775808 ≤ (x2_1 + 1) ∧ (x2_1 + 1) ≤ 9223372036854775807
  n20 : ∀ x0_0 x0_1, I0 x0_0 x0_1 → ∀ x1_0 x1_1, I1 x0_0 x0_1 x1_0 x1_1 → ∀ x2_0 x2_1, I2 x0_0 x0_1 x1_0 x1_1 x2_0 x2_1 → ((D.int (fn 68 [[D.i (a1.length : Int)], [D.l a0]] 0 0)) = 0) → (x0_1 < (a0.length : Int)) → (x1_1 < ((((D.rows (gt a0 x0_1.toNat 0))).length : Int))) → (x2_1 < (x0_0.length : Int)) → (D.boo (gt x0_0 x2_1.toNat 0) = false) → I2 x0_0 x0_1 x1_0 x1_1 x2_0 (x2_1 + 1) ∧ m2 x0_0 x0_1 x1_0 x1_1 x2_0 (x2_1 + 1) < m2 x0_0 x0_1 x1_0 x1_1 x2_0 x2_1
  g21 : ∀ x0_0 x0_1, I0 x0_0 x0_1 → ∀ x1_0 x1_1, I1 x0_0 x0_1 x1_0 x1_1 → ∀ x2_0 x2_1, I2 x0_0 x0_1 x1_0 x1_1 x2_0 x2_1 → ((D.int (fn 68 [[D.i (a1.length : Int)], [D.l a0]] 0 0)) = 0) → (x0_1 < (a0.length : Int)) → (x1_1 < ((((D.rows (gt a0 x0_1.toNat 0))).length : Int))) → (¬ x2_1 < (x0_0.length : Int)) → 0 ≤ x0_1
  g22 : ∀ x0_0 x0_1, I0 x0_0 x0_1 → ∀ x1_0 x1_1, I1 x0_0 x0_1 x1_0 x1_1 → ∀ x2_0 x2_1, I2 x0_0 x0_1 x1_0 x1_1 x2_0 x2_1 → ((D.int (fn 68 [[D.i (a1.length : Int)], [D.l a0]] 0 0)) = 0) → (x0_1 < (a0.length : Int)) → (x1_1 < ((((D.rows (gt a0 x0_1.toNat 0))).length : Int))) → (¬ x2_1 < (x0_0.length : Int)) → x0_1 < (a0.length : Int)
  g23 : ∀ x0_0 x0_1, I0 x0_0 x0_1 → ∀ x1_0 x1_1, I1 x0_0 x0_1 x1_0 x1_1 → ∀ x2_0 x2_1, I2 x0_0 x0_1 x1_0 x1_1 x2_0 x2_1 → ((D.int (fn 68 [[D.i (a1.length : Int)], [D.l a0]] 0 0)) = 0) → (x0_1 < (a0.length : Int)) → (x1_1 < ((((D.rows (gt a0 x0_1.toNat 0))).length : Int))) → (¬ x2_1 < (x0_0.length : Int)) → 0 ≤ x1_1
  g24 : ∀ x0_0 x0_1, I0 x0_0 x0_1 → ∀ x1_0 x1_1, I1 x0_0 x0_1 x1_0 x1_1 → ∀ x2_0 x2_1, I2 x0_0 x0_1 x1_0 x1_1 x2_0 x2_1 → ((D.int (fn 68 [[D.i (a1.length : Int)], [D.l a0]] 0 0)) = 0) → (x0_1 < (a0.length : Int)) → (x1_1 < ((((D.rows (gt a0 x0_1.toNat 0))).length : Int))) → (¬ x2_1 < (x0_0.length : Int)) → x1_1 < ((((D.rows (gt a0 x0_1.toNat 1))).length : Int))
  g25 : ∀ x0_0 x0_1, I0 x0_0 x0_1 → ∀ x1_0 x1_1, I1 x0_0 x0_1 x1_0 x1_1 → ∀ x2_0 x2_1, I2 x0_0 x0_1 x1_0 x1_1 x2_0 x2_1 → ((D.int (fn 68 [[D.i (a1.length : Int)], [D.l a0]] 0 0)) = 0) → (x0_1 < (a0.length : Int)) → (x1_1 < ((((D.rows (gt a0 x0_1.toNat 0))).length : Int))) → (¬ x2_1 < (x0_0.length : Int)) → (x1_0.length + (List.length ([[D.b (decide ((D.int (gt (D.rows (gt a0 x0_1.toNat 1)) x1_1.toNat 0)) ≤ x2_0))]] : Rows))) * 1 ≤ 4294967296 ∧ (x1_0.length + (List.length ([[D.b (decide ((D.int (gt (D.rows (gt a0 x0_1.toNat 1)) x1_1.toNat 0)) ≤ x2_0))]] : Rows))) ≤ 4294967296
  g26 : ∀ x0_0 x0_1, I0 x0_0 x0_1 → ∀ x1_0 x1_1, I1 x0_0 x0_1 x1_0 x1_1 → ∀ x2_0 x2_1, I2 x0_0 x0_1 x1_0 x1_1 x2_0 x2_1 → ((D.int (fn 68 [[D.i (a1.length : Int)], [D.l a0]] 0 0)) = 0) → (x0_1 < (a0.length : Int)) → (x1_1 < ((((D.rows (gt a0 x0_1.toNat 0))).length : Int))) → (¬ x2_1 < (x0_0.length : Int)) → -9223372036854775808 ≤ (x1_1 + 1) ∧ (x1_1 + 1) ≤ 9223372036854775807
  n27 : ∀ x0_0 x0_1, I0 x0_0 x0_1 → ∀ x1_0 x1_1, I1 x0_0 x0_1 x1_0 x1_1 → ∀ x2_0 x2_1, I2 x0_0 x0_1 x1_0 x1_1 x2_0 x2_1 → ((D.int (fn 68 [[D.i (a1.length : Int)], [D.l a0]] 0 0)) = 0) → (x0_1 < (a0.length : Int)) → (x1_1 < ((((D.rows (gt a0 x0_1.toNat 0))).length : Int))) → (¬ x2_1 < (x0_0.length : Int)) → I1 x0_0 x0_1 (x1_0 ++ [[D.b (decide ((D.int (gt (D.rows (gt a0 x0_1.toNat 1)) x1_1.toNat 0)) ≤ x2_0))]]) (x1_1 + 1) ∧ m1 x0_0 x0_1 (x1_0 ++ [[D.b (decide ((D.int (gt (D.rows (gt a0 x0_1.toNat 1)) x1_1.toNat 0)) ≤ x2_0))]]) (x1_1 + 1) < m1 x0_0 x0_1 x1_0 x1_1
  g28 : ∀ x0_0 x0_1, I0 x0_0 x0_1 → ∀ x1_0 x1_1, I1 x0_0 x0_1 x1_0 x1_1 → ((D.int (fn 68 [[D.i (a1.length : Int)], [D.l a0]] 0 0)) = 0) → (x0_1 < (a0.length : Int)) → (¬ x1_1 < ((((D.rows (gt a0 x0_1.toNat 0))).length : Int))) → -9223372036854775808 ≤ (x0_1 + 1) ∧ (x0_1 + 1) ≤ 9223372036854775807
  n29 : ∀ x0_0 x0_1, I0 x0_0 x0_1 → ∀ x1_0 x1_1, I1 x0_0 x0_1 x1_0 x1_1 → ((D.int (fn 68 [[D.i (a1.length : Int)], [D.l a0]] 0 0)) = 0) → (x0_1 < (a0.length : Int)) → (¬ x1_1 < ((((D.rows (gt a0 x0_1.toNat 0))).length : Int))) → I0 x1_0 (x0_1 + 1) ∧ m0 x1_0 (x0_1 + 1) < m0 x0_0 x0_1
  g30 : ∀ x0_0 x0_1, I0 x0_0 x0_1 → ((D.int (fn 68 [[D.i (a1.length : Int)], [D.l a0]] 0 0)) = 0) → (¬ x0_1 < (a0.length : Int)) → R 0 0 = D.l x0_0
  g31 : ∀ x0_0 x0_1, I0 x0_0 x0_1 → ((D.int (fn 68 [[D.i (a1.length : Int)], [D.l a0]] 0 0)) = 0) → (¬ x0_1 < (a0.length : Int)) → R 1 0 = D.i 0
end HX

namespace HX
open Go Go.Proofs CX

theorem law30 {pre : Nat → List (List D) → Prop} {fn : Nat → List (List D) → Nat → Nat → D} (hp : ∀ n l, pre 68 [[.i n], [.l l]] = True) (hf : ∀ n l, fn 68 [[.i n], [.l l]] 0 0 = .i (netErr n l))
    {l x0 : Rows} {R : Nat → Nat → D} (hR : R 0 0 = if netErr ((x0.length : Nat) : Int) l = 0 then .l (nets l x0) else .l []) (hR1 : R 1 0 = .i (netErr ((x0.length : Nat) : Int) l)) :
    V30 pre fn l x0 R (fun x k => ∃ r : Nat, k = r ∧ r ≤ l.length ∧ x.length ≤ 30 ∧ laysErr (l.drop r) ((x.length : Nat) : Int) = 0 ∧ nets (l.drop r) x = nets l x0) (fun _ k => (l.length - k).toNat)
      (fun x k o q => ∃ r : Nat, q = r ∧ r ≤ (lR (l.getD k.toNat [])).length ∧ o.length = r ∧ o ++ outs x ((lR (l.getD k.toNat [])).drop r) ((lT (l.getD k.toNat [])).drop r) = outs x (lR (l.getD k.toNat [])) (lT (l.getD k.toNat [])))
      (fun _ k _ q => ((lR (l.getD k.toNat [])).length - q).toNat)
      (fun x k _ q s j => ∃ r : Nat, j = r ∧ r ≤ x.length ∧ dotB ((lR ((lR (l.getD k.toNat [])).getD q.toNat [])).drop r) (x.drop r) s = dotB (lR ((lR (l.getD k.toNat [])).getD q.toNat [])) x 0 ∧ -(32768 * (r : Int)) ≤ s ∧ s ≤ 32768 * (r : Int))
      (fun x _ _ _ _ j => (x.length - j).toNat) := by
  constructor
  case g0 => rw [hp]; trivial
  case g1 => intro h; rw [hf, int_i] at h; rw [hR, if_neg h]
  case g2 => intro h; rw [hf, int_i, hR1]
  case i0 => intro h; rw [hf, int_i] at h; obtain ⟨h1, h2, h3⟩ := net0 h; exact ⟨0, rfl, by omega, by omega, h3, rfl⟩
  all_goals (intro x k ⟨r, hk, hr, hx, he, hd⟩; subst hk)
  all_goals (try (intro o q ⟨r1, hk, hr1, ho, hd1⟩; subst hk))
  all_goals (try (intro s j ⟨r2, hk, hr2, hd2, hs1, hs2⟩; subst hk))
  all_goals (intros; (try simp only [hf, int_i, gt_lR, gt_lT, gt_wI, gt_yB, Int.toNat_natCast, List.length_cons, List.length_nil] at *))
  all_goals (try omega)
  all_goals (try (have hlr := lays0 (l := l) (q := r) (by omega) he; obtain ⟨hl0, hl1⟩ := hlr; obtain ⟨hb, hb2, hb3, hb4⟩ := lErr0 hl0))
  all_goals (try omega)
  all_goals (try (have hpr := lErr_pre (q := r1) hl0 hx (by omega); obtain ⟨hw1, hw2, hw3⟩ := hpr))
  all_goals (try omega)
  all_goals (try (have hw4 := hw3 _ (row_mem (q := r2) (by omega))))
  all_goals (try omega)
  case i1 => exact ⟨0, rfl, by omega, rfl, rfl⟩
  case i2 => exact ⟨0, rfl, by omega, rfl, by omega, by omega⟩
  case n18 =>
    rename_i hy _
    rw [drop_row (by omega), drop_row (l := x) (by omega)] at hd2
    simp only [dotB, if_pos hy] at hd2
    exact ⟨⟨r2 + 1, rfl, by omega, hd2, by omega, by omega⟩, by omega⟩
  case n20 =>
    rename_i hy _
    rw [drop_row (by omega), drop_row (l := x) (by omega)] at hd2
    simp only [dotB, if_neg (show ¬ yB (x.getD r2 []) = true by rw [hy]; simp)] at hd2
    exact ⟨⟨r2 + 1, rfl, by omega, hd2, by omega, by omega⟩, by omega⟩
  case n27 =>
    rename_i hlt _
    have hs : s = dotB (lR ((lR (l.getD r [])).getD r1 [])) x 0 := by
      rw [← hd2, drop_end (l := x) hlt]; cases (lR ((lR (l.getD r [])).getD r1 [])).drop r2 <;> rfl
    rw [outs_drop (by omega) (by omega), ← hs] at hd1
    exact ⟨⟨r1 + 1, rfl, by omega, by simp [ho], by rw [List.append_assoc]; exact hd1⟩, by omega⟩
  case n29 =>
    rename_i hlt _
    rw [drop_end hlt] at hd1
    have hd2 : o = outs x (lR (l.getD r [])) (lT (l.getD r [])) := by rw [← hd1]; cases (lT (l.getD r [])).drop r1 <;> simp [outs]
    have hol : o.length = (lR (l.getD r [])).length := by rw [hd2, outs_len x hb2]
    rw [drop_row (by omega), nets, ← hd2] at hd
    exact ⟨⟨r + 1, rfl, by omega, by omega, by rw [hol]; exact hl1, hd⟩, by omega⟩
  case g28 => rename_i hn; have := (net0 hn).2.1; omega
  case g30 =>
    rename_i hlt hn
    rw [drop_end hlt, nets] at hd
    rw [hR, if_pos hn, hd]
  case g31 => rw [hR1]; congr 1
end HX

namespace HX
open Go Go.Proofs CX
structure V28 (a0 : Rows) (R : Nat → Nat → D) (I0 : Rows → Bool → Rows → Int → Prop) (m0 : Rows → Bool → Rows → Int → Nat) (I1 : Rows → Bool → Rows → Int → Rows → Bool → Int → Rows → Rows → Prop) (m1 : Rows → Bool → Rows → Int → Rows → Bool → Int → Rows → Rows → Nat) : Prop where
  i0 : I0 [] false [] 0
  g1 : ∀ x0_0 x0_1 x0_2 x0_3, I0 x0_0 x0_1 x0_2 x0_3 → (x0_3 < (a0.length : Int)) → (10 < (a0.length : Int)) → R 0 0 = D.l []
  g2 : ∀ x0_0 x0_1 x0_2 x0_3, I0 x0_0 x0_1 x0_2 x0_3 → (x0_3 < (a0.length : Int)) → (10 < (a0.length : Int)) → R 1 0 = D.b false
  g3 : ∀ x0_0 x0_1 x0_2 x0_3, I0 x0_0 x0_1 x0_2 x0_3 → (x0_3 < (a0.length : Int)) → (¬ 10 < (a0.length : Int)) → 0 ≤ x0_3
  g4 : ∀ x0_0 x0_1 x0_2 x0_3, I0 x0_0 x0_1 x0_2 x0_3 → (x0_3 < (a0.length : Int)) → (¬ 10 < (a0.length : Int)) → x0_3 < (a0.length : Int)
  g5 : ∀ x0_0 x0_1 x0_2 x0_3, I0 x0_0 x0_1 x0_2 x0_3 → (x0_3 < (a0.length : Int)) → (¬ 10 < (a0.length : Int)) → (32 < ((((D.rows (gt a0 x0_3.toNat 0))).length : Int))) → R 0 0 = D.l []
  g6 : ∀ x0_0 x0_1 x0_2 x0_3, I0 x0_0 x0_1 x0_2 x0_3 → (x0_3 < (a0.length : Int)) → (¬ 10 < (a0.length : Int)) → (32 < ((((D.rows (gt a0 x0_3.toNat 0))).length : Int))) → R 1 0 = D.b false
  g7 : ∀ x0_0 x0_1 x0_2 x0_3, I0 x0_0 x0_1 x0_2 x0_3 → (x0_3 < (a0.length : Int)) → (¬ 10 < (a0.length : Int)) → (¬ 32 < ((((D.rows (gt a0 x0_3.toNat 0))).length : Int))) → 0 ≤ x0_3
  g8 : ∀ x0_0 x0_1 x0_2 x0_3, I0 x0_0 x0_1 x0_2 x0_3 → (x0_3 < (a0.length : Int)) → (¬ 10 < (a0.length : Int)) → (¬ 32 < ((((D.rows (gt a0 x0_3.toNat 0))).length : Int))) → x0_3 < (a0.length : Int)
  g9 : ∀ x0_0 x0_1 x0_2 x0_3, I0 x0_0 x0_1 x0_2 x0_3 → (x0_3 < (a0.length : Int)) → (¬ 10 < (a0.length : Int)) → (¬ 32 < ((((D.rows (gt a0 x0_3.toNat 0))).length : Int))) → (40 < ((((D.rows (gt a0 x0_3.toNat 1))).length : Int))) → R 0 0 = D.l []
  g10 : ∀ x0_0 x0_1 x0_2 x0_3, I0 x0_0 x0_1 x0_2 x0_3 → (x0_3 < (a0.length : Int)) → (¬ 10 < (a0.length : Int)) → (¬ 32 < ((((D.rows (gt a0 x0_3.toNat 0))).length : Int))) → (40 < ((((D.rows (gt a0 x0_3.toNat 1))).length : Int))) → R 1 0 = D.b false
  g11 : ∀ x0_0 x0_1 x0_2 x0_3, I0 x0_0 x0_1 x0_2 x0_3 → (x0_3 < (a0.length : Int)) → (¬ 10 < (a0.length : Int)) → (¬ 32 < ((((D.rows (gt a0 x0_3.toNat 0))).length : Int))) → (¬ 40 < ((((D.rows (gt a0 x0_3.toNat 1))).length : Int))) → 0 ≤ x0_3
  g12 : ∀ x0_0 x0_1 x0_2 x0_3, I0 x0_0 x0_1 x0_2 x0_3 → (x0_3 < (a0.length : Int)) → (¬ 10 < (a0.length : Int)) → (¬ 32 < ((((D.rows (gt a0 x0_3.toNat 0))).length : Int))) → (¬ 40 < ((((D.rows (gt a0 x0_3.toNat 1))).length : Int))) → x0_3 < (a0.length : Int)
  g13 : ∀ x0_0 x0_1 x0_2 x0_3, I0 x0_0 x0_1 x0_2 x0_3 → (x0_3 < (a0.length : Int)) → (¬ 10 < (a0.length : Int)) → (¬ 32 < ((((D.rows (gt a0 x0_3.toNat 0))).length : Int))) → (¬ 40 < ((((D.rows (gt a0 x0_3.toNat 1))).length : Int))) → ((List.length ([] : Rows)) + (List.length ((D.rows (gt a0 x0_3.toNat 1)) : Rows))) * 8 ≤ 4294967296 ∧ ((List.length ([] : Rows)) + (List.length ((D.rows (gt a0 x0_3.toNat 1)) : Rows))) ≤ 4294967296
  i1 : ∀ x0_0 x0_1 x0_2 x0_3, I0 x0_0 x0_1 x0_2 x0_3 → (x0_3 < (a0.length : Int)) → (¬ 10 < (a0.length : Int)) → (¬ 32 < ((((D.rows (gt a0 x0_3.toNat 0))).length : Int))) → (¬ 40 < ((((D.rows (gt a0 x0_3.toNat 1))).length : Int))) → I1 x0_0 x0_1 x0_2 x0_3 x0_0 x0_1 0 [] ([] ++ (D.rows (gt a0 x0_3.toNat 1)))
  g15 : ∀ x0_0 x0_1 x0_2 x0_3, I0 x0_0 x0_1 x0_2 x0_3 → ∀ x1_0 x1_1 x1_2 x1_3 x1_4, I1 x0_0 x0_1 x0_2 x0_3 x1_0 x1_1 x1_2 x1_3 x1_4 → (x0_3 < (a0.length : Int)) → (¬ 10 < (a0.length : Int)) → (¬ 32 < ((((D.rows (gt a0 x0_3.toNat 0))).length : Int))) → (¬ 40 < ((((D.rows (gt a0 x0_3.toNat 1))).length : Int))) → 0 ≤ x0_3
  g16 : ∀ x0_0 x0_1 x0_2 x0_3, I0 x0_0 x0_1 x0_2 x0_3 → ∀ x1_0 x1_1 x1_2 x1_3 x1_4, I1 x0_0 x0_1 x0_2 x0_3 x1_0 x1_1 x1_2 x1_3 x1_4 → (x0_3 < (a0.length : Int)) → (¬ 10 < (a0.length : Int)) → (¬ 32 < ((((D.rows (gt a0 x0_3.toNat 0))).length : Int))) → (¬ 40 < ((((D.rows (gt a0 x0_3.toNat 1))).length : Int))) → x0_3 < (a0.length : Int)
  g17 : ∀ x0_0 x0_1 x0_2 x0_3, I0 x0_0 x0_1 x0_2 x0_3 → ∀ x1_0 x1_1 x1_2 x1_3 x1_4, I1 x0_0 x0_1 x0_2 x0_3 x1_0 x1_1 x1_2 x1_3 x1_4 → (x0_3 < (a0.length : Int)) → (¬ 10 < (a0.length : Int)) → (¬ 32 < ((((D.rows (gt a0 x0_3.toNat 0))).length : Int))) → (¬ 40 < ((((D.rows (gt a0 x0_3.toNat 1))).length : Int))) → (x1_2 < ((((D.rows (gt a0 x0_3.toNat 0))).length : Int))) → 0 ≤ x0_3
  g18 : ∀ x0_0 x0_1 x0_2 x0_3, I0 x0_0 x0_1 x0_2 x0_3 → ∀ x1_0 x1_1 x1_2 x1_3 x1_4, I1 x0_0 x0_1 x0_2 x0_3 x1_0 x1_1 x1_2 x1_3 x1_4 → (x0_3 < (a0.length : Int)) → (¬ 10 < (a0.length : Int)) → (¬ 32 < ((((D.rows (gt a0 x0_3.toNat 0))).length : Int))) → (¬ 40 < ((((D.rows (gt a0 x0_3.toNat 1))).length : Int))) → (x1_2 < ((((D.rows (gt a0 x0_3.toNat 0))).length : Int))) → x0_3 < (a0.length : Int)
  g19 : ∀ x0_0 x0_1 x0_2 x0_3, I0 x0_0 x0_1 x0_2 x0_3 → ∀ x1_0 x1_1 x1_2 x1_3 x1_4, I1 x0_0 x0_1 x0_2 x0_3 x1_0 x1_1 x1_2 x1_3 x1_4 → (x0_3 < (a0.length : Int)) → (¬ 10 < (a0.length : Int)) → (¬ 32 < ((((D.rows (gt a0 x0_3.toNat 0))).length : Int))) → (¬ 40 < ((((D.rows (gt a0 x0_3.toNat 1))).length : Int))) → (x1_2 < ((((D.rows (gt a0 x0_3.toNat 0))).length : Int))) → 0 ≤ x1_2
  g20 : ∀ x0_0 x0_1 x0_2 x0_3, I0 x0_0 x0_1 x0_2 x0_3 → ∀ x1_0 x1_1 x1_2 x1_3 x1_4, I1 x0_0 x0_1 x0_2 x0_3 x1_0 x1_1 x1_2 x1_3 x1_4 → (x0_3 < (a0.length : Int)) → (¬ 10 < (a0.length : Int)) → (¬ 32 < ((((D.rows (gt a0 x0_3.toNat 0))).length : Int))) → (¬ 40 < ((((D.rows (gt a0 x0_3.toNat 1))).length : Int))) → (x1_2 < ((((D.rows (gt a0 x0_3.toNat 0))).length : Int))) → x1_2 < ((((D.rows (gt a0 x0_3.toNat 0))).length : Int))
  g21 : ∀ x0_0 x0_1 x0_2 x0_3, I0 x0_0 x0_1 x0_2 x0_3 → ∀ x1_0 x1_1 x1_2 x1_3 x1_4, I1 x0_0 x0_1 x0_2 x0_3 x1_0 x1_1 x1_2 x1_3 x1_4 → (x0_3 < (a0.length : Int)) → (¬ 10 < (a0.length : Int)) → (¬ 32 < ((((D.rows (gt a0 x0_3.toNat 0))).length : Int))) → (¬ 40 < ((((D.rows (gt a0 x0_3.toNat 1))).length : Int))) → (x1_2 < ((((D.rows (gt a0 x0_3.toNat 0))).length : Int))) → (40 < ((((D.rows (gt (D.rows (gt a0 x0_3.toNat 0)) x1_2.toNat 0))).length : Int))) → R 0 0 = D.l []
  g22 : ∀ x0_0 x0_1 x0_2 x0_3, I0 x0_0 x0_1 x0_2 x0_3 → ∀ x1_0 x1_1 x1_2 x1_3 x1_4, I1 x0_0 x0_1 x0_2 x0_3 x1_0 x1_1 x1_2 x1_3 x1_4 → (x0_3 < (a0.length : Int)) → (¬ 10 < (a0.length : Int)) → (¬ 32 < ((((D.rows (gt a0 x0_3.toNat 0))).length : Int))) → (¬ 40 < ((((D.rows (gt a0 x0_3.toNat 1))).length : Int))) → (x1_2 < ((((D.rows (gt a0 x0_3.toNat 0))).length : Int))) → (40 < ((((D.rows (gt (D.rows (gt a0 x0_3.toNat 0)) x1_2.toNat 0))).length : Int))) → R 1 0 = D.b false
  g23 : ∀ x0_0 x0_1 x0_2 x0_3, I0 x0_0 x0_1 x0_2 x0_3 → ∀ x1_0 x1_1 x1_2 x1_3 x1_4, I1 x0_0 x0_1 x0_2 x0_3 x1_0 x1_1 x1_2 x1_3 x1_4 → (x0_3 < (a0.length : Int)) → (¬ 10 < (a0.length : Int)) → (¬ 32 < ((((D.rows (gt a0 x0_3.toNat 0))).length : Int))) → (¬ 40 < ((((D.rows (gt a0 x0_3.toNat 1))).length : Int))) → (x1_2 < ((((D.rows (gt a0 x0_3.toNat 0))).length : Int))) → (¬ 40 < ((((D.rows (gt (D.rows (gt a0 x0_3.toNat 0)) x1_2.toNat 0))).length : Int))) → 0 ≤ x0_3
  g24 : ∀ x0_0 x0_1 x0_2 x0_3, I0 x0_0 x0_1 x0_2 x0_3 → ∀ x1_0 x1_1 x1_2 x1_3 x1_4, I1 x0_0 x0_1 x0_2 x0_3 x1_0 x1_1 x1_2 x1_3 x1_4 → (x0_3 < (a0.length : Int)) → (¬ 10 < (a0.length : Int)) → (¬ 32 < ((((D.rows (gt a0 x0_3.toNat 0))).length : Int))) → (¬ 40 < ((((D.rows (gt a0 x0_3.toNat 1))).length : Int))) → (x1_2 < ((((D.rows (gt a0 x0_3.toNat 0))).length : Int))) → (¬ 40 < ((((D.rows (gt (D.rows (gt a0 x0_3.toNat 0)) x1_2.toNat 0))).length : Int))) → x0_3 < (a0.length : Int)
  g25 : ∀ x0_0 x0_1 x0_2 x0_3, I0 x0_0 x0_1 x0_2 x0_3 → ∀ x1_0 x1_1 x1_2 x1_3 x1_4, I1 x0_0 x0_1 x0_2 x0_3 x1_0 x1_1 x1_2 x1_3 x1_4 → (x0_3 < (a0.length : Int)) → (¬ 10 < (a0.length : Int)) → (¬ 32 < ((((D.rows (gt a0 x0_3.toNat 0))).length : Int))) → (¬ 40 < ((((D.rows (gt a0 x0_3.toNat 1))).length : Int))) → (x1_2 < ((((D.rows (gt a0 x0_3.toNat 0))).length : Int))) → (¬ 40 < ((((D.rows (gt (D.rows (gt a0 x0_3.toNat 0)) x1_2.toNat 0))).length : Int))) → 0 ≤ x1_2
  g26 : ∀ x0_0 x0_1 x0_2 x0_3, I0 x0_0 x0_1 x0_2 x0_3 → ∀ x1_0 x1_1 x1_2 x1_3 x1_4, I1 x0_0 x0_1 x0_2 x0_3 x1_0 x1_1 x1_2 x1_3 x1_4 → (x0_3 < (a0.length : Int)) → (¬ 10 < (a0.length : Int)) → (¬ 32 < ((((D.rows (gt a0 x0_3.toNat 0))).length : Int))) → (¬ 40 < ((((D.rows (gt a0 x0_3.toNat 1))).length : Int))) → (x1_2 < ((((D.rows (gt a0 x0_3.toNat 0))).length : Int))) → (¬ 40 < ((((D.rows (gt (D.rows (gt a0 x0_3.toNat 0)) x1_2.toNat 0))).length : Int))) → x1_2 < ((((D.rows (gt a0 x0_3.toNat 0))).length : Int))
  g27 : ∀ x0_0 x0_1 x0_2 x0_3, I0 x0_0 x0_1 x0_2 x0_3 → ∀ x1_0 x1_1 x1_2 x1_3 x1_4, I1 x0_0 x0_1 x0_2 x0_3 x1_0 x1_1 x1_2 x1_3 x1_4 → (x0_3 < (a0.length : Int)) → (¬ 10 < (a0.length : Int)) → (¬ 32 < ((((D.rows (gt a0 x0_3.toNat 0))).length : Int))) → (¬ 40 < ((((D.rows (gt a0 x0_3.toNat 1))).length : Int))) → (x1_2 < ((((D.rows (gt a0 x0_3.toNat 0))).length : Int))) → (¬ 40 < ((((D.rows (gt (D.rows (gt a0 x0_3.toNat 0)) x1_2.toNat 0))).length : Int))) → ((List.length ([] : Rows)) + (List.length ((D.rows (gt (D.rows (gt a0 x0_3.toNat 0)) x1_2.toNat 0)) : Rows))) * 8 ≤ 4294967296 ∧ ((List.length ([] : Rows)) + (List.length ((D.rows (gt (D.rows (gt a0 x0_3.toNat 0)) x1_2.toNat 0)) : Rows))) ≤ 4294967296
  g28 : ∀ x0_0 x0_1 x0_2 x0_3, I0 x0_0 x0_1 x0_2 x0_3 → ∀ x1_0 x1_1 x1_2 x1_3 x1_4, I1 x0_0 x0_1 x0_2 x0_3 x1_0 x1_1 x1_2 x1_3 x1_4 → (x0_3 < (a0.length : Int)) → (¬ 10 < (a0.length : Int)) → (¬ 32 < ((((D.rows (gt a0 x0_3.toNat 0))).length : Int))) → (¬ 40 < ((((D.rows (gt a0 x0_3.toNat 1))).length : Int))) → (x1_2 < ((((D.rows (gt a0 x0_3.toNat 0))).length : Int))) → (¬ 40 < ((((D.rows (gt (D.rows (gt a0 x0_3.toNat 0)) x1_2.toNat 0))).length : Int))) → (x1_3.length + (List.length ([[D.l ([] ++ (D.rows (gt (D.rows (gt a0 x0_3.toNat 0)) x1_2.toNat 0)))]] : Rows))) * 24 ≤ 4294967296 ∧ (x1_3.length + (List.length ([[D.l ([] ++ (D.rows (gt (D.rows (gt a0 x0_3.toNat 0)) x1_2.toNat 0)))]] : Rows))) ≤ 4294967296
  g29 : ∀ x0_0 x0_1 x0_2 x0_3, I0 x0_0 x0_1 x0_2 x0_3 → ∀ x1_0 x1_1 x1_2 x1_3 x1_4, I1 x0_0 x0_1 x0_2 x0_3 x1_0 x1_1 x1_2 x1_3 x1_4 → (x0_3 < (a0.length : Int)) → (¬ 10 < (a0.length : Int)) → (¬ 32 < ((((D.rows (gt a0 x0_3.toNat 0))).length : Int))) → (¬ 40 < ((((D.rows (gt a0 x0_3.toNat 1))).length : Int))) → (x1_2 < ((((D.rows (gt a0 x0_3.toNat 0))).length : Int))) → (¬ 40 < ((((D.rows (gt (D.rows (gt a0 x0_3.toNat 0)) x1_2.toNat 0))).length : Int))) → -9223372036854775808 ≤ (x1_2 + 1) ∧ (x1_2 + 1) ≤ 9223372036854775807
  n30 : ∀ x0_0 x0_1 x0_2 x0_3, I0 x0_0 x0_1 x0_2 x0_3 → ∀ x1_0 x1_1 x1_2 x1_3 x1_4, I1 x0_0 x0_1 x0_2 x0_3 x1_0 x1_1 x1_2 x1_3 x1_4 → (x0_3 < (a0.length : Int)) → (¬ 10 < (a0.length : Int)) → (¬ 32 < ((((D.rows (gt a0 x0_3.toNat 0))).length : Int))) → (¬ 40 < ((((D.rows (gt a0 x0_3.toNat 1))).length : Int))) → (x1_2 < ((((D.rows (gt a0 x0_3.toNat 0))).length : Int))) → (¬ 40 < ((((D.rows (gt (D.rows (gt a0 x0_3.toNat 0)) x1_2.toNat 0))).length : Int))) → I1 x0_0 x0_1 x0_2 x0_3 x1_0 x1_1 (x1_2 + 1) (x1_3 ++ [[D.l ([] ++ (D.rows (gt (D.rows (gt a0 x0_3.toNat 0)) x1_2.toNat 0)))]]) x1_4 ∧ m1 x0_0 x0_1 x0_2 x0_3 x1_0 x1_1 (x1_2 + 1) (x1_3 ++ [[D.l ([] ++ (D.rows (gt (D.rows (gt a0 x0_3.toNat 0)) x1_2.toNat 0)))]]) x1_4 < m1 x0_0 x0_1 x0_2 x0_3 x1_0 x1_1 x1_2 x1_3 x1_4
  g31 : ∀ x0_0 x0_1 x0_2 x0_3, I0 x0_0 x0_1 x0_2 x0_3 → ∀ x1_0 x1_1 x1_2 x1_3 x1_4, I1 x0_0 x0_1 x0_2 x0_3 x1_0 x1_1 x1_2 x1_3 x1_4 → (x0_3 < (a0.length : Int)) → (¬ 10 < (a0.length : Int)) → (¬ 32 < ((((D.rows (gt a0 x0_3.toNat 0))).length : Int))) → (¬ 40 < ((((D.rows (gt a0 x0_3.toNat 1))).length : Int))) → (¬ x1_2 < ((((D.rows (gt a0 x0_3.toNat 0))).length : Int))) → (x0_2.length + (List.length ([[D.l x1_3, D.l x1_4]] : Rows))) * 48 ≤ 4294967296 ∧ (x0_2.length + (List.length ([[D.l x1_3, D.l x1_4]] : Rows))) ≤ 4294967296
  g32 : ∀ x0_0 x0_1 x0_2 x0_3, I0 x0_0 x0_1 x0_2 x0_3 → ∀ x1_0 x1_1 x1_2 x1_3 x1_4, I1 x0_0 x0_1 x0_2 x0_3 x1_0 x1_1 x1_2 x1_3 x1_4 → (x0_3 < (a0.length : Int)) → (¬ 10 < (a0.length : Int)) → (¬ 32 < ((((D.rows (gt a0 x0_3.toNat 0))).length : Int))) → (¬ 40 < ((((D.rows (gt a0 x0_3.toNat 1))).length : Int))) → (¬ x1_2 < ((((D.rows (gt a0 x0_3.toNat 0))).length : Int))) → -9223372036854775808 ≤ (x0_3 + 1) ∧ (x0_3 + 1) ≤ 9223372036854775807
  n33 : ∀ x0_0 x0_1 x0_2 x0_3, I0 x0_0 x0_1 x0_2 x0_3 → ∀ x1_0 x1_1 x1_2 x1_3 x1_4, I1 x0_0 x0_1 x0_2 x0_3 x1_0 x1_1 x1_2 x1_3 x1_4 → (x0_3 < (a0.length : Int)) → (¬ 10 < (a0.length : Int)) → (¬ 32 < ((((D.rows (gt a0 x0_3.toNat 0))).length : Int))) → (¬ 40 < ((((D.rows (gt a0 x0_3.toNat 1))).length : Int))) → (¬ x1_2 < ((((D.rows (gt a0 x0_3.toNat 0))).length : Int))) → I0 x1_0 x1_1 (x0_2 ++ [[D.l x1_3, D.l x1_4]]) (x0_3 + 1) ∧ m0 x1_0 x1_1 (x0_2 ++ [[D.l x1_3, D.l x1_4]]) (x0_3 + 1) < m0 x0_0 x0_1 x0_2 x0_3
  g34 : ∀ x0_0 x0_1 x0_2 x0_3, I0 x0_0 x0_1 x0_2 x0_3 → (¬ x0_3 < (a0.length : Int)) → R 0 0 = D.l x0_2
  g35 : ∀ x0_0 x0_1 x0_2 x0_3, I0 x0_0 x0_1 x0_2 x0_3 → (¬ x0_3 < (a0.length : Int)) → R 1 0 = D.b true
end HX

namespace HX
open Go Go.Proofs CX

def u40 (u : List D) : Bool := decide ((lR u).length ≤ 40)
def rowOk (row : List D) : Bool := decide ((lR row).length ≤ 32 ∧ (lT row).length ≤ 40) && (lR row).all u40
def cpu (w : Rows) : Rows := w.map fun u => [.l (lR u)]
def cpy (l : Rows) : Rows := l.map fun row => [.l (cpu (lR row)), .l (lT row)]
theorem cpu_drop {w : Rows} {q : Nat} (h : q < w.length) : cpu (w.drop q) = [.l (lR (w.getD q []))] :: cpu (w.drop (q + 1)) := by rw [drop_row h]; rfl
theorem cpy_drop {w : Rows} {q : Nat} (h : q < w.length) : cpy (w.drop q) = [.l (cpu (lR (w.getD q []))), .l (lT (w.getD q []))] :: cpy (w.drop (q + 1)) := by rw [drop_row h]; rfl
def laysOk (l : Rows) : Prop := l.length ≤ 10 ∧ l.all rowOk = true
instance (l : Rows) : Decidable (laysOk l) := inferInstanceAs (Decidable (_ ∧ _))

theorem law28 {l : Rows} {R : Nat → Nat → D} (hR : R 0 0 = if laysOk l then .l (cpy l) else .l []) (hR1 : R 1 0 = .b (decide (laysOk l))) :
    V28 l R (fun _ _ o k => ∃ r : Nat, k = r ∧ r ≤ l.length ∧ (0 < r → l.length ≤ 10) ∧ o.length = r ∧ o ++ cpy (l.drop r) = cpy l ∧ (l.drop r).all rowOk = l.all rowOk) (fun _ _ _ k => (l.length - k).toNat)
      (fun _ _ _ k _ _ q u th => th = lT (l.getD k.toNat []) ∧ ∃ r : Nat, q = r ∧ r ≤ (lR (l.getD k.toNat [])).length ∧ u.length = r ∧ u ++ cpu ((lR (l.getD k.toNat [])).drop r) = cpu (lR (l.getD k.toNat [])) ∧ ((lR (l.getD k.toNat [])).drop r).all u40 = (lR (l.getD k.toNat [])).all u40)
      (fun _ _ _ k _ _ q _ _ => ((lR (l.getD k.toNat [])).length - q).toNat) := by
  have hno : ¬ laysOk l → R 0 0 = .l [] ∧ R 1 0 = .b false := fun h => ⟨by rw [hR, if_neg h], by rw [hR1, decide_eq_false h]⟩
  constructor
  case i0 => exact ⟨0, rfl, by omega, by omega, rfl, rfl, rfl⟩
  all_goals (intro _ _ o k ⟨r, hk, hr, h10, ho, hd, ha⟩; subst hk)
  all_goals (try (intro _ _ q u th ⟨hth, r1, hk, hr1, ho1, hd1, ha1⟩; subst hk))
  all_goals (intros; (try simp only [gt_lR, gt_lT, Int.toNat_natCast, List.length_cons, List.length_nil, List.nil_append] at *))
  all_goals (try omega)
  case g1 => exact (hno (fun h => by have := h.1; omega)).1
  case g2 => exact (hno (fun h => by have := h.1; omega)).2
  all_goals (try (have hbad : rowOk (l.getD r []) = false → R 0 0 = .l [] ∧ R 1 0 = .b false := fun h => hno (fun h2 => by rw [all_no (by omega) h, h2.2] at ha; exact absurd ha (by decide))))
  case g5 => exact (hbad (by rw [rowOk, decide_eq_false (by omega), Bool.false_and])).1
  case g6 => exact (hbad (by rw [rowOk, decide_eq_false (by omega), Bool.false_and])).2
  case g9 => exact (hbad (by rw [rowOk, decide_eq_false (by omega), Bool.false_and])).1
  case g10 => exact (hbad (by rw [rowOk, decide_eq_false (by omega), Bool.false_and])).2
  case i1 => exact ⟨trivial, 0, rfl, by omega, rfl, rfl, rfl⟩
  case g21 =>
    rw [all_no (by omega) (show u40 ((lR (l.getD r [])).getD r1 []) = false by rw [u40, decide_eq_false (by omega)])] at ha1
    exact (hbad (by rw [rowOk, ← ha1, Bool.and_false])).1
  case g22 =>
    rw [all_no (by omega) (show u40 ((lR (l.getD r [])).getD r1 []) = false by rw [u40, decide_eq_false (by omega)])] at ha1
    exact (hbad (by rw [rowOk, ← ha1, Bool.and_false])).2
  case n30 =>
    rw [all_ok (by omega) (show u40 ((lR (l.getD r [])).getD r1 []) = true by rw [u40, decide_eq_true (by omega)])] at ha1
    rw [cpu_drop (by omega)] at hd1
    exact ⟨⟨hth, r1 + 1, rfl, by omega, by simp [ho1], by rw [List.append_assoc]; exact hd1, ha1⟩, by omega⟩
  case n33 =>
    have hlt : ¬ (r1 : Int) < (((lR (l.getD r [])).length : Nat) : Int) := by omega
    rw [drop_end hlt] at hd1 ha1
    have hu : u = cpu (lR (l.getD r [])) := by rw [← hd1]; simp [cpu]
    rw [all_ok (by omega) (show rowOk (l.getD r []) = true by rw [rowOk, ← ha1, decide_eq_true (by omega)]; rfl)] at ha
    rw [cpy_drop (by omega), ← hu, ← hth] at hd
    exact ⟨⟨r + 1, rfl, by omega, fun _ => by omega, by simp [ho], by rw [List.append_assoc]; exact hd, ha⟩, by omega⟩
  case g34 =>
    rw [drop_end (by omega)] at hd ha
    have hok : laysOk l := ⟨by omega, by rw [← ha]; rfl⟩
    rw [hR, if_pos hok, ← hd]; simp [cpy]
  case g35 =>
    rw [drop_end (by omega)] at ha
    have hok : laysOk l := ⟨by omega, by rw [← ha]; rfl⟩
    rw [hR1, decide_eq_true hok]
end HX

namespace HX
open Go Go.Proofs CX
set_option maxHeartbeats 4000000 in
set_option maxRecDepth 100000 in
theorem walk105 {ro A pre fn} (hE : EnvOk ⟨A, (cxE ro), ksF, sigL [], pre, fn⟩) {P : List (List D) → Prop} {res : List (List D) → Nat → Nat → D}
    (hv : ∀ (a0 : Rows), ShR [.sl [.int .i64]] a0 → P [[.l a0]] → ∃ (I0 : Int → Int → Prop) (m0 : Int → Int → Nat) (I1 : Int → Int → Rows → Int → Prop) (m1 : Int → Int → Rows → Int → Nat) (I2 : Int → Int → Rows → Int → Prop) (m2 : Int → Int → Rows → Int → Nat), V105 a0 (res [[.l a0]]) I0 m0 I1 m1 I2 m2) :
    PureC (cxE ro) 105 ⟨[(false, [.sl [.sl [.int .i64]]])], [(false, [.sl [.int .i64]])], false⟩ P res := by
  have hA := hE.A
  simp only [] at hA
  have hinl : ∀ f fn, inlL [(134, Tryz.f134)] f = some fn → (cxE ro).fn f = some fn ∧ (cxE ro).ext f = none := Inls.ok (by repeat (first | exact .nil | refine .cons rfl rfl ?_))
  refine PureC.of_vc hE hinl 6 (f := 105) (fn := Tryz.f105) ⟨rfl, rfl⟩ ?_
  intro a0 ha0 hP
  obtain ⟨R, hR⟩ : ∃ R, res [[.l a0]] = R := ⟨_, rfl⟩
  rw [hR]
  obtain ⟨I0, m0, I1, m1, I2, m2, hV⟩ := hv a0 ha0 hP
  rw [hR] at hV
  clear hR hP hv
  cbv
  repeat' (first | (refine Br.mk (fun _ => ?_) (fun _ => ?_) <;> cbv) | (refine NilB.mk (fun _ => ?_) ?_ <;> cbv) | refine And.intro ?_ ?_ | exact True.intro)
  · refine Leaf.gen fun σz hσz => ?_
    refine loopB hE hinl 6 [] [] [] (fun x : Int × Int => [.i x.1, .i x.2]) (fun x => I0 x.1 x.2) (fun x => m0 x.1 x.2) (0, 0) (by subst hA; exact hV.i0) ?_ ?_ <;> subst hσz
    · clear hE hinl hV; cbv; (try (repeat' (first | exact True.intro | rfl | assumption | apply And.intro)))
    · intro ⟨x0_0, x0_1⟩ hI0 K0 hK0
      cbv
      repeat' (first | (refine Br.mk (fun _ => ?_) (fun _ => ?_) <;> cbv) | (refine NilB.mk (fun _ => ?_) ?_ <;> cbv) | refine And.intro ?_ ?_ | exact True.intro)
      · rename_i hp1_0
        subst hA; exact hV.g1 _ _ hI0 (dt hp1_0)
      · rename_i hp2_0
        subst hA; exact hV.g2 _ _ hI0 (dt hp2_0)
      · rename_i hp3_0
        subst hA; exact hV.g3 _ _ hI0 (dt hp3_0)
      · rename_i hp4_0 hp4_1
        subst hA; exact (hV.g4 _ _ hI0 (dt hp4_0) (dt hp4_1)).elim
      · rename_i hp5_0 hp5_1
        subst hA; exact hV.g5 _ _ hI0 (dt hp5_0) (df hp5_1)
      · rename_i hp6_0 hp6_1
        refine hK0 (A.add x0_0 (A.nat (A.len (A.dl (A.get a0 (A.toNat x0_1) 0)))), A.add x0_1 1) _ ?_ ?_ ?_
        · subst hA; exact (hV.n6 _ _ hI0 (dt hp6_0) (df hp6_1)).1
        · subst hA; exact (hV.n6 _ _ hI0 (dt hp6_0) (df hp6_1)).2
        · clear hE hinl hV hK0; cbv; (try (repeat' (first | exact True.intro | rfl | assumption | apply And.intro)))
      · rename_i hp7_0 hp7_1
        subst hA; exact (hV.g7 _ _ hI0 (df hp7_0) (dt hp7_1)).elim
      · rename_i hp8_0 hp8_1
        subst hA; exact hV.g8 _ _ hI0 (df hp8_0) (df hp8_1)
      · rename_i hp9_0 hp9_1
        subst hA; exact hV.g9 _ _ hI0 (df hp9_0) (df hp9_1)
      · rename_i hp10_0 hp10_1 hp10_2
        subst hA; exact hV.g10 _ _ hI0 (df hp10_0) (df hp10_1) (dt hp10_2)
      · rename_i hp11_0 hp11_1 hp11_2
        subst hA; exact hV.g11 _ _ hI0 (df hp11_0) (df hp11_1) (dt hp11_2)
      · rename_i hp12_0 hp12_1 hp12_2
        subst hA; exact hV.g12 _ _ hI0 (df hp12_0) (df hp12_1) (dt hp12_2)
      · rename_i hp13_0 hp13_1 hp13_2
        subst hA; exact hV.g13 _ _ hI0 (df hp13_0) (df hp13_1) (dt hp13_2)
      · rename_i hp14_0 hp14_1 hp14_2
        subst hA; exact hV.g14 _ _ hI0 (df hp14_0) (df hp14_1) (dt hp14_2)
      · rename_i hp15_0 hp15_1 hp15_2
        subst hA; exact hV.g10 _ _ hI0 (df hp15_0) (df hp15_1) (dt hp15_2)
      · rename_i hp16_0 hp16_1 hp16_2
        subst hA; exact hV.g16 _ _ hI0 (df hp16_0) (df hp16_1) (dt hp16_2)
      · rename_i hp17_0 hp17_1 hp17_2
        refine Leaf.gen fun σz hσz => ?_
        refine loopC hE hinl 6 [6] [] [] [] (fun x : Rows × Int => [.l x.1, .i x.2]) (fun x => I1 x0_0 x0_1 x.1 x.2) (fun x => m1 x0_0 x0_1 x.1 x.2) (A.sub' (A.rep (A.toNat (A.sub x0_0 (A.sub 0 0))) [D.i 0]) 0 (A.toNat 0), 0) (by subst hA; exact hV.i1 _ _ hI0 (df hp17_0) (df hp17_1) (dt hp17_2)) ?_ ?_ <;> subst hσz
        · clear hE hinl hV; cbv; (try (repeat' (first | exact True.intro | rfl | assumption | apply And.intro)))
        · intro ⟨x1_0, x1_1⟩ hI1 K1 hK1
          cbv
          repeat' (first | (refine Br.mk (fun _ => ?_) (fun _ => ?_) <;> cbv) | (refine NilB.mk (fun _ => ?_) ?_ <;> cbv) | refine And.intro ?_ ?_ | exact True.intro)
          · rename_i hp18_0
            subst hA; exact hV.g18 _ _ hI0 _ _ hI1 (df hp17_0) (df hp17_1) (dt hp17_2) (dt hp18_0)
          · rename_i hp19_0
            subst hA; exact hV.g19 _ _ hI0 _ _ hI1 (df hp17_0) (df hp17_1) (dt hp17_2) (dt hp19_0)
          · rename_i hp20_0
            subst hA; exact hV.g20 _ _ hI0 _ _ hI1 (df hp17_0) (df hp17_1) (dt hp17_2) (dt hp20_0)
          · rename_i hp21_0
            subst hA; exact hV.g21 _ _ hI0 _ _ hI1 (df hp17_0) (df hp17_1) (dt hp17_2) (dt hp21_0)
          · rename_i hp22_0
            refine hK1 (A.app x1_0 (A.dl (A.get a0 (A.toNat x1_1) 0)), A.add x1_1 1) _ ?_ ?_ ?_
            · subst hA; exact (hV.n22 _ _ hI0 _ _ hI1 (df hp17_0) (df hp17_1) (dt hp17_2) (dt hp22_0)).1
            · subst hA; exact (hV.n22 _ _ hI0 _ _ hI1 (df hp17_0) (df hp17_1) (dt hp17_2) (dt hp22_0)).2
            · clear hE hinl hV hK1; cbv; (try (repeat' (first | exact True.intro | rfl | assumption | apply And.intro)))
          · rename_i hp23_0
            subst hA; exact hV.g23 _ _ hI0 _ _ hI1 (df hp17_0) (df hp17_1) (dt hp17_2) (df hp23_0)
      · rename_i hp24_0 hp24_1 hp24_2
        refine Leaf.gen fun σz hσz => ?_
        refine loopB hE hinl 6 [] [] [] (fun x : Rows × Int => [.l x.1, .i x.2]) (fun x => I2 x0_0 x0_1 x.1 x.2) (fun x => m2 x0_0 x0_1 x.1 x.2) ([], 0) (by subst hA; exact hV.i2 _ _ hI0 (df hp24_0) (df hp24_1) (df hp24_2)) ?_ ?_ <;> subst hσz
        · clear hE hinl hV; cbv; (try (repeat' (first | exact True.intro | rfl | assumption | apply And.intro)))
        · intro ⟨x2_0, x2_1⟩ hI2 K2 hK2
          cbv
          repeat' (first | (refine Br.mk (fun _ => ?_) (fun _ => ?_) <;> cbv) | (refine NilB.mk (fun _ => ?_) ?_ <;> cbv) | refine And.intro ?_ ?_ | exact True.intro)
          · rename_i hp25_0
            subst hA; exact hV.g25 _ _ hI0 _ _ hI2 (df hp24_0) (df hp24_1) (df hp24_2) (dt hp25_0)
          · rename_i hp26_0
            subst hA; exact hV.g26 _ _ hI0 _ _ hI2 (df hp24_0) (df hp24_1) (df hp24_2) (dt hp26_0)
          · rename_i hp27_0
            subst hA; exact hV.g27 _ _ hI0 _ _ hI2 (df hp24_0) (df hp24_1) (df hp24_2) (dt hp27_0)
          · rename_i hp28_0
            subst hA; exact hV.g28 _ _ hI0 _ _ hI2 (df hp24_0) (df hp24_1) (df hp24_2) (dt hp28_0)
          · rename_i hp29_0
            refine hK2 (A.app x2_0 (A.dl (A.get a0 (A.toNat x2_1) 0)), A.add x2_1 1) _ ?_ ?_ ?_
            · subst hA; exact (hV.n29 _ _ hI0 _ _ hI2 (df hp24_0) (df hp24_1) (df hp24_2) (dt hp29_0)).1
            · subst hA; exact (hV.n29 _ _ hI0 _ _ hI2 (df hp24_0) (df hp24_1) (df hp24_2) (dt hp29_0)).2
            · clear hE hinl hV hK2; cbv; (try (repeat' (first | exact True.intro | rfl | assumption | apply And.intro)))
          · rename_i hp30_0
            subst hA; exact hV.g30 _ _ hI0 _ _ hI2 (df hp24_0) (df hp24_1) (df hp24_2) (df hp30_0)
end HX

namespace HX
open Go Go.Proofs CX
set_option maxHeartbeats 4000000 in
set_option maxRecDepth 100000 in
theorem walk65 {ro A pre fn} (hE : EnvOk ⟨A, (cxE ro), ksF, sigL [(51, ⟨[(false, [.sl [.int .i64, .int .i64, .int .i64]])], [(false, [.bool])], false⟩), (105, ⟨[(false, [.sl [.sl [.int .i64]]])], [(false, [.sl [.int .i64]])], false⟩)], pre, fn⟩) {P : List (List D) → Prop} {res : List (List D) → Nat → Nat → D}
    (hv : ∀ (a0_0 : Rows) (a0_1 : Rows) (a1 : Int), ShR [.sl [.int .i64]] a0_0 → ShR [.int .i64] a0_1 → P [[.l a0_0, .l a0_1], [.i a1]] → ∃ (I0 : Int → Int → Prop) (m0 : Int → Int → Nat) (I1 : Int → Int → Int → Int → Prop) (m1 : Int → Int → Int → Int → Nat) (I2 : Int → Int → Int → Int → Int → Int → Prop) (m2 : Int → Int → Int → Int → Int → Int → Nat) (I3 : Int → Int → Int → Int → Prop) (m3 : Int → Int → Int → Int → Nat) (I4 : Int → Int → Int → Int → Int → Int → Prop) (m4 : Int → Int → Int → Int → Int → Int → Nat), V65 pre fn a0_0 a0_1 a1 (res [[.l a0_0, .l a0_1], [.i a1]]) I0 m0 I1 m1 I2 m2 I3 m3 I4 m4) :
    PureC (cxE ro) 65 ⟨[(true, [.sl [.sl [.int .i64]], .sl [.int .i64]]), (false, [.int .i64])], [(false, [.int .i64])], false⟩ P res := by
  have hA := hE.A
  simp only [] at hA
  have hinl : ∀ f fn, inlL [(103, Tryz.f103), (133, Tryz.f133), (104, Tryz.f104)] f = some fn → (cxE ro).fn f = some fn ∧ (cxE ro).ext f = none := Inls.ok (by repeat (first | exact .nil | refine .cons rfl rfl ?_))
  refine PureC.of_vc hE hinl 6 (f := 65) (fn := Tryz.f65) ⟨rfl, rfl⟩ ?_
  intro a0_0 ha0_0 a0_1 ha0_1 a1 hP
  obtain ⟨R, hR⟩ : ∃ R, res [[.l a0_0, .l a0_1], [.i a1]] = R := ⟨_, rfl⟩
  rw [hR]
  obtain ⟨I0, m0, I1, m1, I2, m2, I3, m3, I4, m4, hV⟩ := hv a0_0 a0_1 a1 ha0_0 ha0_1 hP
  rw [hR] at hV
  clear hR hP hv
  cbv
  repeat' (first | (refine Br.mk (fun _ => ?_) (fun _ => ?_) <;> cbv) | (refine NilB.mk (fun _ => ?_) ?_ <;> cbv) | refine And.intro ?_ ?_ | exact True.intro)
  · subst hA; exact hV.g0
  · rename_i hp1_0
    subst hA; exact hV.g1 (nt hp1_0)
  · rename_i hp2_0 hp2_1
    subst hA; exact hV.g2 (nf hp2_0) (df (nt hp2_1))
  · rename_i hp3_0 hp3_1
    refine Leaf.gen fun σz hσz => ?_
    refine loopB hE hinl 6 [] [] [] (fun x : Int × Int => [.i x.1, .i x.2]) (fun x => I0 x.1 x.2) (fun x => m0 x.1 x.2) (0, 0) (by subst hA; exact hV.i0 (nf hp3_0) (dt (nf hp3_1))) ?_ ?_ <;> subst hσz
    · clear hE hinl hV; cbv; (try (repeat' (first | exact True.intro | rfl | assumption | apply And.intro)))
    · intro ⟨x0_0, x0_1⟩ hI0 K0 hK0
      cbv
      repeat' (first | (refine Br.mk (fun _ => ?_) (fun _ => ?_) <;> cbv) | (refine NilB.mk (fun _ => ?_) ?_ <;> cbv) | refine And.intro ?_ ?_ | exact True.intro)
      · rename_i hp4_0
        subst hA; exact hV.g4 _ _ hI0 (nf hp3_0) (dt (nf hp3_1)) (dt hp4_0)
      · rename_i hp5_0
        subst hA; exact hV.g5 _ _ hI0 (nf hp3_0) (dt (nf hp3_1)) (dt hp5_0)
      · rename_i hp6_0 hp6_1 hp6_2
        subst hA; exact hV.g6 _ _ hI0 (nf hp3_0) (dt (nf hp3_1)) (dt hp6_0) (df (nt hp6_1)) (dt hp6_2)
      · rename_i hp7_0 hp7_1 hp7_2
        subst hA; exact hV.g7 _ _ hI0 (nf hp3_0) (dt (nf hp3_1)) (dt hp7_0) (df (nt hp7_1)) (df hp7_2)
      · rename_i hp8_0 hp8_1 hp8_2
        refine Leaf.gen fun σz hσz => ?_
        refine loopB hE hinl 6 [] [] [] (fun x : Int × Int => [.i x.1, .i x.2]) (fun x => I1 x0_0 x0_1 x.1 x.2) (fun x => m1 x0_0 x0_1 x.1 x.2) (0, 0) (by subst hA; exact hV.i1 _ _ hI0 (nf hp3_0) (dt (nf hp3_1)) (dt hp8_0) (df (nt hp8_1)) (df hp8_2)) ?_ ?_ <;> subst hσz
        · clear hE hinl hV; cbv; (try (repeat' (first | exact True.intro | rfl | assumption | apply And.intro)))
        · intro ⟨x1_0, x1_1⟩ hI1 K1 hK1
          cbv
          repeat' (first | (refine Br.mk (fun _ => ?_) (fun _ => ?_) <;> cbv) | (refine NilB.mk (fun _ => ?_) ?_ <;> cbv) | refine And.intro ?_ ?_ | exact True.intro)
          · rename_i hp9_0
            subst hA; exact hV.g9 _ _ hI0 _ _ hI1 (nf hp3_0) (dt (nf hp3_1)) (dt hp8_0) (df (nt hp8_1)) (df hp8_2) (dt hp9_0)
          · rename_i hp10_0
            subst hA; exact hV.g10 _ _ hI0 _ _ hI1 (nf hp3_0) (dt (nf hp3_1)) (dt hp8_0) (df (nt hp8_1)) (df hp8_2) (dt hp10_0)
          · rename_i hp11_0
            subst hA; exact hV.g11 _ _ hI0 _ _ hI1 (nf hp3_0) (dt (nf hp3_1)) (dt hp8_0) (df (nt hp8_1)) (df hp8_2) (dt hp11_0)
          · rename_i hp12_0 hp12_1
            subst hA; exact hV.g12 _ _ hI0 _ _ hI1 (nf hp3_0) (dt (nf hp3_1)) (dt hp8_0) (df (nt hp8_1)) (df hp8_2) (dt hp12_0) (nt hp12_1)
          · rename_i hp13_0 hp13_1
            subst hA; exact hV.g13 _ _ hI0 _ _ hI1 (nf hp3_0) (dt (nf hp3_1)) (dt hp8_0) (df (nt hp8_1)) (df hp8_2) (dt hp13_0) (nf hp13_1)
          · rename_i hp14_0 hp14_1
            refine hK1 (x1_0, A.add x1_1 1) _ ?_ ?_ ?_
            · subst hA; exact (hV.n14 _ _ hI0 _ _ hI1 (nf hp3_0) (dt (nf hp3_1)) (dt hp8_0) (df (nt hp8_1)) (df hp8_2) (dt hp14_0) (nf hp14_1)).1
            · subst hA; exact (hV.n14 _ _ hI0 _ _ hI1 (nf hp3_0) (dt (nf hp3_1)) (dt hp8_0) (df (nt hp8_1)) (df hp8_2) (dt hp14_0) (nf hp14_1)).2
            · clear hE hinl hV hK1; cbv; (try (repeat' (first | exact True.intro | rfl | assumption | apply And.intro)))
          · rename_i hp15_0
            refine Leaf.gen fun σz hσz => ?_
            refine loopB hE hinl 6 [] [] [] (fun x : Int × Int => [.i x.1, .i x.2]) (fun x => I2 x0_0 x0_1 x1_0 x1_1 x.1 x.2) (fun x => m2 x0_0 x0_1 x1_0 x1_1 x.1 x.2) (x1_0, 0) (by subst hA; exact hV.i2 _ _ hI0 _ _ hI1 (nf hp3_0) (dt (nf hp3_1)) (dt hp8_0) (df (nt hp8_1)) (df hp8_2) (df hp15_0)) ?_ ?_ <;> subst hσz
            · clear hE hinl hV; cbv; (try (repeat' (first | exact True.intro | rfl | assumption | apply And.intro)))
            · intro ⟨x2_0, x2_1⟩ hI2 K2 hK2
              cbv
              repeat' (first | (refine Br.mk (fun _ => ?_) (fun _ => ?_) <;> cbv) | (refine NilB.mk (fun _ => ?_) ?_ <;> cbv) | refine And.intro ?_ ?_ | exact True.intro)
              · rename_i hp16_0
                subst hA; exact hV.g16 _ _ hI0 _ _ hI1 _ _ hI2 (nf hp3_0) (dt (nf hp3_1)) (dt hp8_0) (df (nt hp8_1)) (df hp8_2) (df hp15_0) (dt hp16_0)
              · rename_i hp17_0
                subst hA; exact hV.g17 _ _ hI0 _ _ hI1 _ _ hI2 (nf hp3_0) (dt (nf hp3_1)) (dt hp8_0) (df (nt hp8_1)) (df hp8_2) (df hp15_0) (dt hp17_0)
              · rename_i hp18_0
                subst hA; exact hV.g18 _ _ hI0 _ _ hI1 _ _ hI2 (nf hp3_0) (dt (nf hp3_1)) (dt hp8_0) (df (nt hp8_1)) (df hp8_2) (df hp15_0) (dt hp18_0)
              · rename_i hp19_0 hp19_1
                subst hA; exact hV.g19 _ _ hI0 _ _ hI1 _ _ hI2 (nf hp3_0) (dt (nf hp3_1)) (dt hp8_0) (df (nt hp8_1)) (df hp8_2) (df hp15_0) (dt hp19_0) (nt hp19_1)
              · rename_i hp20_0 hp20_1
                subst hA; exact hV.g20 _ _ hI0 _ _ hI1 _ _ hI2 (nf hp3_0) (dt (nf hp3_1)) (dt hp8_0) (df (nt hp8_1)) (df hp8_2) (df hp15_0) (dt hp20_0) (nf hp20_1)
              · rename_i hp21_0 hp21_1
                refine hK2 (x2_0, A.add x2_1 1) _ ?_ ?_ ?_
                · subst hA; exact (hV.n21 _ _ hI0 _ _ hI1 _ _ hI2 (nf hp3_0) (dt (nf hp3_1)) (dt hp8_0) (df (nt hp8_1)) (df hp8_2) (df hp15_0) (dt hp21_0) (nf hp21_1)).1
                · subst hA; exact (hV.n21 _ _ hI0 _ _ hI1 _ _ hI2 (nf hp3_0) (dt (nf hp3_1)) (dt hp8_0) (df (nt hp8_1)) (df hp8_2) (df hp15_0) (dt hp21_0) (nf hp21_1)).2
                · clear hE hinl hV hK2; cbv; (try (repeat' (first | exact True.intro | rfl | assumption | apply And.intro)))
              · rename_i hp22_0
                subst hA; exact hV.g22 _ _ hI0 _ _ hI1 _ _ hI2 (nf hp3_0) (dt (nf hp3_1)) (dt hp8_0) (df (nt hp8_1)) (df hp8_2) (df hp15_0) (df hp22_0)
      · rename_i hp23_0 hp23_1
        subst hA; exact hV.g23 _ _ hI0 (nf hp3_0) (dt (nf hp3_1)) (dt hp23_0) (dt (nf hp23_1))
      · rename_i hp24_0 hp24_1
        refine hK0 (x0_0, A.add x0_1 1) _ ?_ ?_ ?_
        · subst hA; exact (hV.n24 _ _ hI0 (nf hp3_0) (dt (nf hp3_1)) (dt hp24_0) (dt (nf hp24_1))).1
        · subst hA; exact (hV.n24 _ _ hI0 (nf hp3_0) (dt (nf hp3_1)) (dt hp24_0) (dt (nf hp24_1))).2
        · clear hE hinl hV hK0; cbv; (try (repeat' (first | exact True.intro | rfl | assumption | apply And.intro)))
      · rename_i hp25_0 hp25_1
        exfalso; subst hA; simp [Ar.std] at hp25_1
      · rename_i hp26_0 hp26_1
        subst hA; exact hV.g26 _ _ hI0 (nf hp3_0) (dt (nf hp3_1)) (df hp26_0)
      · rename_i hp27_0 hp27_1
        refine Leaf.gen fun σz hσz => ?_
        refine loopB hE hinl 6 [] [] [] (fun x : Int × Int => [.i x.1, .i x.2]) (fun x => I3 x0_0 x0_1 x.1 x.2) (fun x => m3 x0_0 x0_1 x.1 x.2) (0, 0) (by subst hA; exact hV.i3 _ _ hI0 (nf hp3_0) (dt (nf hp3_1)) (df hp27_0)) ?_ ?_ <;> subst hσz
        · clear hE hinl hV; cbv; (try (repeat' (first | exact True.intro | rfl | assumption | apply And.intro)))
        · intro ⟨x3_0, x3_1⟩ hI3 K3 hK3
          cbv
          repeat' (first | (refine Br.mk (fun _ => ?_) (fun _ => ?_) <;> cbv) | (refine NilB.mk (fun _ => ?_) ?_ <;> cbv) | refine And.intro ?_ ?_ | exact True.intro)
          · rename_i hp28_0
            subst hA; exact hV.g28 _ _ hI0 _ _ hI3 (nf hp3_0) (dt (nf hp3_1)) (df hp27_0) (dt hp28_0)
          · rename_i hp29_0
            subst hA; exact hV.g29 _ _ hI0 _ _ hI3 (nf hp3_0) (dt (nf hp3_1)) (df hp27_0) (dt hp29_0)
          · rename_i hp30_0
            subst hA; exact hV.g30 _ _ hI0 _ _ hI3 (nf hp3_0) (dt (nf hp3_1)) (df hp27_0) (dt hp30_0)
          · rename_i hp31_0 hp31_1
            subst hA; exact hV.g31 _ _ hI0 _ _ hI3 (nf hp3_0) (dt (nf hp3_1)) (df hp27_0) (dt hp31_0) (nt hp31_1)
          · rename_i hp32_0 hp32_1
            subst hA; exact hV.g32 _ _ hI0 _ _ hI3 (nf hp3_0) (dt (nf hp3_1)) (df hp27_0) (dt hp32_0) (nf hp32_1)
          · rename_i hp33_0 hp33_1
            refine hK3 (x3_0, A.add x3_1 1) _ ?_ ?_ ?_
            · subst hA; exact (hV.n33 _ _ hI0 _ _ hI3 (nf hp3_0) (dt (nf hp3_1)) (df hp27_0) (dt hp33_0) (nf hp33_1)).1
            · subst hA; exact (hV.n33 _ _ hI0 _ _ hI3 (nf hp3_0) (dt (nf hp3_1)) (df hp27_0) (dt hp33_0) (nf hp33_1)).2
            · clear hE hinl hV hK3; cbv; (try (repeat' (first | exact True.intro | rfl | assumption | apply And.intro)))
          · rename_i hp34_0
            refine Leaf.gen fun σz hσz => ?_
            refine loopB hE hinl 6 [] [] [] (fun x : Int × Int => [.i x.1, .i x.2]) (fun x => I4 x0_0 x0_1 x3_0 x3_1 x.1 x.2) (fun x => m4 x0_0 x0_1 x3_0 x3_1 x.1 x.2) (x3_0, 0) (by subst hA; exact hV.i4 _ _ hI0 _ _ hI3 (nf hp3_0) (dt (nf hp3_1)) (df hp27_0) (df hp34_0)) ?_ ?_ <;> subst hσz
            · clear hE hinl hV; cbv; (try (repeat' (first | exact True.intro | rfl | assumption | apply And.intro)))
            · intro ⟨x4_0, x4_1⟩ hI4 K4 hK4
              cbv
              repeat' (first | (refine Br.mk (fun _ => ?_) (fun _ => ?_) <;> cbv) | (refine NilB.mk (fun _ => ?_) ?_ <;> cbv) | refine And.intro ?_ ?_ | exact True.intro)
              · rename_i hp35_0
                subst hA; exact hV.g35 _ _ hI0 _ _ hI3 _ _ hI4 (nf hp3_0) (dt (nf hp3_1)) (df hp27_0) (df hp34_0) (dt hp35_0)
              · rename_i hp36_0
                subst hA; exact hV.g36 _ _ hI0 _ _ hI3 _ _ hI4 (nf hp3_0) (dt (nf hp3_1)) (df hp27_0) (df hp34_0) (dt hp36_0)
              · rename_i hp37_0
                subst hA; exact hV.g37 _ _ hI0 _ _ hI3 _ _ hI4 (nf hp3_0) (dt (nf hp3_1)) (df hp27_0) (df hp34_0) (dt hp37_0)
              · rename_i hp38_0 hp38_1
                subst hA; exact hV.g38 _ _ hI0 _ _ hI3 _ _ hI4 (nf hp3_0) (dt (nf hp3_1)) (df hp27_0) (df hp34_0) (dt hp38_0) (nt hp38_1)
              · rename_i hp39_0 hp39_1
                subst hA; exact hV.g39 _ _ hI0 _ _ hI3 _ _ hI4 (nf hp3_0) (dt (nf hp3_1)) (df hp27_0) (df hp34_0) (dt hp39_0) (nf hp39_1)
              · rename_i hp40_0 hp40_1
                refine hK4 (x4_0, A.add x4_1 1) _ ?_ ?_ ?_
                · subst hA; exact (hV.n40 _ _ hI0 _ _ hI3 _ _ hI4 (nf hp3_0) (dt (nf hp3_1)) (df hp27_0) (df hp34_0) (dt hp40_0) (nf hp40_1)).1
                · subst hA; exact (hV.n40 _ _ hI0 _ _ hI3 _ _ hI4 (nf hp3_0) (dt (nf hp3_1)) (df hp27_0) (df hp34_0) (dt hp40_0) (nf hp40_1)).2
                · clear hE hinl hV hK4; cbv; (try (repeat' (first | exact True.intro | rfl | assumption | apply And.intro)))
              · rename_i hp41_0
                subst hA; exact hV.g41 _ _ hI0 _ _ hI3 _ _ hI4 (nf hp3_0) (dt (nf hp3_1)) (df hp27_0) (df hp34_0) (df hp41_0)
end HX

namespace HX
open Go Go.Proofs CX
set_option maxHeartbeats 4000000 in
set_option maxRecDepth 100000 in
theorem walk63 {ro A pre fn} (hE : EnvOk ⟨A, (cxE ro), ksF, sigL [(51, ⟨[(false, [.sl [.int .i64, .int .i64, .int .i64]])], [(false, [.bool])], false⟩), (65, ⟨[(true, [.sl [.sl [.int .i64]], .sl [.int .i64]]), (false, [.int .i64])], [(false, [.int .i64])], false⟩)], pre, fn⟩) {P : List (List D) → Prop} {res : List (List D) → Nat → Nat → D}
    (hv : ∀ (a0 : Int) (a1 : Rows), ShR [.sl [.sl [.int .i64]], .sl [.int .i64]] a1 → P [[.i a0], [.l a1], [.nil], [.nil]] → ∃ (I0 : Int → Int → Int → Prop) (m0 : Int → Int → Int → Nat), V63 pre fn a0 a1 (res [[.i a0], [.l a1], [.nil], [.nil]]) I0 m0) :
    PureC (cxE ro) 63 ⟨[(false, [.int .i64]), (false, [.sl [.sl [.sl [.int .i64]], .sl [.int .i64]]]), (false, [.fnc 64]), (false, [.fnc 65])], [(false, [.int .i64])], false⟩ P res := by
  have hA := hE.A
  simp only [] at hA
  have hinl : ∀ f fn, inlL [(64, Tryz.f64)] f = some fn → (cxE ro).fn f = some fn ∧ (cxE ro).ext f = none := Inls.ok (by repeat (first | exact .nil | refine .cons rfl rfl ?_))
  refine PureC.of_vc hE hinl 6 (f := 63) (fn := Tryz.f63) ⟨rfl, rfl⟩ ?_
  intro a0 a1 ha1 hP
  obtain ⟨R, hR⟩ : ∃ R, res [[.i a0], [.l a1], [.nil], [.nil]] = R := ⟨_, rfl⟩
  rw [hR]
  obtain ⟨I0, m0, hV⟩ := hv a0 a1 ha1 hP
  rw [hR] at hV
  clear hR hP hv
  cbv
  repeat' (first | (refine Br.mk (fun _ => ?_) (fun _ => ?_) <;> cbv) | (refine NilB.mk (fun _ => ?_) ?_ <;> cbv) | refine And.intro ?_ ?_ | exact True.intro)
  · subst hA; exact hV.g0
  · rename_i hp1_0
    subst hA; exact hV.g1 (nt hp1_0)
  · rename_i hp2_0
    subst hA; exact hV.g2 (nf hp2_0)
  · rename_i hp3_0 hp3_1
    subst hA; exact hV.g3 (nf hp3_0) (nt hp3_1)
  · rename_i hp4_0 hp4_1
    refine Leaf.gen fun σz hσz => ?_
    refine loopB hE hinl 6 [] [] [] (fun x : Int × Int × Int => [.i x.1, .i x.2.1, .i x.2.2]) (fun x => I0 x.1 x.2.1 x.2.2) (fun x => m0 x.1 x.2.1 x.2.2) (0, a0, 0) (by subst hA; exact hV.i0 (nf hp4_0) (nf hp4_1)) ?_ ?_ <;> subst hσz
    · clear hE hinl hV; cbv; (try (repeat' (first | exact True.intro | rfl | assumption | apply And.intro)))
    · intro ⟨x0_0, x0_1, x0_2⟩ hI0 K0 hK0
      cbv
      repeat' (first | (refine Br.mk (fun _ => ?_) (fun _ => ?_) <;> cbv) | (refine NilB.mk (fun _ => ?_) ?_ <;> cbv) | refine And.intro ?_ ?_ | exact True.intro)
      · rename_i hp5_0
        subst hA; exact hV.g5 _ _ _ hI0 (nf hp4_0) (nf hp4_1) (dt hp5_0)
      · rename_i hp6_0
        subst hA; exact hV.g6 _ _ _ hI0 (nf hp4_0) (nf hp4_1) (dt hp6_0)
      · rename_i hp7_0
        subst hA; exact hV.g7 _ _ _ hI0 (nf hp4_0) (nf hp4_1) (dt hp7_0)
      · rename_i hp8_0 hp8_1
        subst hA; exact hV.g8 _ _ _ hI0 (nf hp4_0) (nf hp4_1) (dt hp8_0) (df (nt hp8_1))
      · rename_i hp9_0 hp9_1
        subst hA; exact hV.g9 _ _ _ hI0 (nf hp4_0) (nf hp4_1) (dt hp9_0) (dt (nf hp9_1))
      · rename_i hp10_0 hp10_1
        refine hK0 (x0_0, A.nat (A.len (A.dl (A.get a1 (A.toNat x0_2) 0))), A.add x0_2 1) _ ?_ ?_ ?_
        · subst hA; exact (hV.n10 _ _ _ hI0 (nf hp4_0) (nf hp4_1) (dt hp10_0) (dt (nf hp10_1))).1
        · subst hA; exact (hV.n10 _ _ _ hI0 (nf hp4_0) (nf hp4_1) (dt hp10_0) (dt (nf hp10_1))).2
        · clear hE hinl hV hK0; cbv; (try (repeat' (first | exact True.intro | rfl | assumption | apply And.intro)))
      · rename_i hp11_0
        subst hA; exact hV.g11 _ _ _ hI0 (nf hp4_0) (nf hp4_1) (df hp11_0)
end HX
