/-
  Texts of the executors: V82, V74, V75, V79, V80, V85, V138, LvP, LvC, LvL, LvF, V41, V42, LvE, V15, W15, W37, W38.
-/
import Derived.Test.YtlgaegbommfdmaaGreatCodeLevels6
set_option linter.all false
namespace HX
open Go Go.Proofs CX
structure V82 (a0 : Int) (a1 : Rows) (a2 : Int) (R : Nat → Nat → D) (I0 : Int → Int → Int → Prop) (m0 : Int → Int → Int → Nat) (I1 : Int → Int → Int → Int → Int → Prop) (m1 : Int → Int → Int → Int → Int → Nat) (I2 : Int → Int → Int → Int → Int → Int → Int → Int → Prop) (m2 : Int → Int → Int → Int → Int → Int → Int → Int → Nat) : Prop where
  g0 : (1 ≤ a0) → (¬ a0 ≤ 30) → R 0 0 = D.i 3
  g1 : (1 ≤ a0) → (a0 ≤ 30) → (1 ≤ a2) → (¬ a2 ≤ 64) → R 0 0 = D.i 3
  g2 : (1 ≤ a0) → (a0 ≤ 30) → (1 ≤ a2) → (a2 ≤ 64) → (1 ≤ (a1.length : Int)) → (¬ (a1.length : Int) ≤ 8) → R 0 0 = D.i 9
  i0 : (1 ≤ a0) → (a0 ≤ 30) → (1 ≤ a2) → (a2 ≤ 64) → (1 ≤ (a1.length : Int)) → ((a1.length : Int) ≤ 8) → I0 0 a0 0
  g4 : ∀ x0_0 x0_1 x0_2, I0 x0_0 x0_1 x0_2 → (1 ≤ a0) → (a0 ≤ 30) → (1 ≤ a2) → (a2 ≤ 64) → (1 ≤ (a1.length : Int)) → ((a1.length : Int) ≤ 8) → (x0_2 < (a1.length : Int)) → 0 ≤ x0_2
  g5 : ∀ x0_0 x0_1 x0_2, I0 x0_0 x0_1 x0_2 → (1 ≤ a0) → (a0 ≤ 30) → (1 ≤ a2) → (a2 ≤ 64) → (1 ≤ (a1.length : Int)) → ((a1.length : Int) ≤ 8) → (x0_2 < (a1.length : Int)) → x0_2 < (a1.length : Int)
  g6 : ∀ x0_0 x0_1 x0_2, I0 x0_0 x0_1 x0_2 → (1 ≤ a0) → (a0 ≤ 30) → (1 ≤ a2) → (a2 ≤ 64) → (1 ≤ (a1.length : Int)) → ((a1.length : Int) ≤ 8) → (x0_2 < (a1.length : Int)) → (1 ≤ ((D.rows (gt a1 x0_2.toNat 0)).length : Int)) → (¬ ((D.rows (gt a1 x0_2.toNat 0)).length : Int) ≤ 30) → R 0 0 = D.i 3
  i1 : ∀ x0_0 x0_1 x0_2, I0 x0_0 x0_1 x0_2 → (1 ≤ a0) → (a0 ≤ 30) → (1 ≤ a2) → (a2 ≤ 64) → (1 ≤ (a1.length : Int)) → ((a1.length : Int) ≤ 8) → (x0_2 < (a1.length : Int)) → (1 ≤ ((D.rows (gt a1 x0_2.toNat 0)).length : Int)) → (((D.rows (gt a1 x0_2.toNat 0)).length : Int) ≤ 30) → I1 x0_0 x0_1 x0_2 x0_0 0
  g8 : ∀ x0_0 x0_1 x0_2, I0 x0_0 x0_1 x0_2 → ∀ x1_0 x1_1, I1 x0_0 x0_1 x0_2 x1_0 x1_1 → (1 ≤ a0) → (a0 ≤ 30) → (1 ≤ a2) → (a2 ≤ 64) → (1 ≤ (a1.length : Int)) → ((a1.length : Int) ≤ 8) → (x0_2 < (a1.length : Int)) → (1 ≤ ((D.rows (gt a1 x0_2.toNat 0)).length : Int)) → (((D.rows (gt a1 x0_2.toNat 0)).length : Int) ≤ 30) → 0 ≤ x0_2
  g9 : ∀ x0_0 x0_1 x0_2, I0 x0_0 x0_1 x0_2 → ∀ x1_0 x1_1, I1 x0_0 x0_1 x0_2 x1_0 x1_1 → (1 ≤ a0) → (a0 ≤ 30) → (1 ≤ a2) → (a2 ≤ 64) → (1 ≤ (a1.length : Int)) → ((a1.length : Int) ≤ 8) → (x0_2 < (a1.length : Int)) → (1 ≤ ((D.rows (gt a1 x0_2.toNat 0)).length : Int)) → (((D.rows (gt a1 x0_2.toNat 0)).length : Int) ≤ 30) → x0_2 < (a1.length : Int)
  g10 : ∀ x0_0 x0_1 x0_2, I0 x0_0 x0_1 x0_2 → ∀ x1_0 x1_1, I1 x0_0 x0_1 x0_2 x1_0 x1_1 → (1 ≤ a0) → (a0 ≤ 30) → (1 ≤ a2) → (a2 ≤ 64) → (1 ≤ (a1.length : Int)) → ((a1.length : Int) ≤ 8) → (x0_2 < (a1.length : Int)) → (1 ≤ ((D.rows (gt a1 x0_2.toNat 0)).length : Int)) → (((D.rows (gt a1 x0_2.toNat 0)).length : Int) ≤ 30) → (x1_1 < ((D.rows (gt a1 x0_2.toNat 0)).length : Int)) → 0 ≤ x0_2
  g11 : ∀ x0_0 x0_1 x0_2, I0 x0_0 x0_1 x0_2 → ∀ x1_0 x1_1, I1 x0_0 x0_1 x0_2 x1_0 x1_1 → (1 ≤ a0) → (a0 ≤ 30) → (1 ≤ a2) → (a2 ≤ 64) → (1 ≤ (a1.length : Int)) → ((a1.length : Int) ≤ 8) → (x0_2 < (a1.length : Int)) → (1 ≤ ((D.rows (gt a1 x0_2.toNat 0)).length : Int)) → (((D.rows (gt a1 x0_2.toNat 0)).length : Int) ≤ 30) → (x1_1 < ((D.rows (gt a1 x0_2.toNat 0)).length : Int)) → x0_2 < (a1.length : Int)
  g12 : ∀ x0_0 x0_1 x0_2, I0 x0_0 x0_1 x0_2 → ∀ x1_0 x1_1, I1 x0_0 x0_1 x0_2 x1_0 x1_1 → (1 ≤ a0) → (a0 ≤ 30) → (1 ≤ a2) → (a2 ≤ 64) → (1 ≤ (a1.length : Int)) → ((a1.length : Int) ≤ 8) → (x0_2 < (a1.length : Int)) → (1 ≤ ((D.rows (gt a1 x0_2.toNat 0)).length : Int)) → (((D.rows (gt a1 x0_2.toNat 0)).length : Int) ≤ 30) → (x1_1 < ((D.rows (gt a1 x0_2.toNat 0)).length : Int)) → 0 ≤ x1_1
  g13 : ∀ x0_0 x0_1 x0_2, I0 x0_0 x0_1 x0_2 → ∀ x1_0 x1_1, I1 x0_0 x0_1 x0_2 x1_0 x1_1 → (1 ≤ a0) → (a0 ≤ 30) → (1 ≤ a2) → (a2 ≤ 64) → (1 ≤ (a1.length : Int)) → ((a1.length : Int) ≤ 8) → (x0_2 < (a1.length : Int)) → (1 ≤ ((D.rows (gt a1 x0_2.toNat 0)).length : Int)) → (((D.rows (gt a1 x0_2.toNat 0)).length : Int) ≤ 30) → (x1_1 < ((D.rows (gt a1 x0_2.toNat 0)).length : Int)) → x1_1 < ((D.rows (gt a1 x0_2.toNat 0)).length : Int)
  g14 : ∀ x0_0 x0_1 x0_2, I0 x0_0 x0_1 x0_2 → ∀ x1_0 x1_1, I1 x0_0 x0_1 x0_2 x1_0 x1_1 → (1 ≤ a0) → (a0 ≤ 30) → (1 ≤ a2) → (a2 ≤ 64) → (1 ≤ (a1.length : Int)) → ((a1.length : Int) ≤ 8) → (x0_2 < (a1.length : Int)) → (1 ≤ ((D.rows (gt a1 x0_2.toNat 0)).length : Int)) → (((D.rows (gt a1 x0_2.toNat 0)).length : Int) ≤ 30) → (x1_1 < ((D.rows (gt a1 x0_2.toNat 0)).length : Int)) → (¬ (((D.rows (gt (D.rows (gt a1 x0_2.toNat 0)) x1_1.toNat 0)).length : Int)) = x0_1) → R 0 0 = D.i 13
  g15 : ∀ x0_0 x0_1 x0_2, I0 x0_0 x0_1 x0_2 → ∀ x1_0 x1_1, I1 x0_0 x0_1 x0_2 x1_0 x1_1 → (1 ≤ a0) → (a0 ≤ 30) → (1 ≤ a2) → (a2 ≤ 64) → (1 ≤ (a1.length : Int)) → ((a1.length : Int) ≤ 8) → (x0_2 < (a1.length : Int)) → (1 ≤ ((D.rows (gt a1 x0_2.toNat 0)).length : Int)) → (((D.rows (gt a1 x0_2.toNat 0)).length : Int) ≤ 30) → (x1_1 < ((D.rows (gt a1 x0_2.toNat 0)).length : Int)) → ((((D.rows (gt (D.rows (gt a1 x0_2.toNat 0)) x1_1.toNat 0)).length : Int)) = x0_1) → (1 ≤ (D.int (gt (D.rows (gt a1 x0_2.toNat 0)) x1_1.toNat 2))) → (¬ (D.int (gt (D.rows (gt a1 x0_2.toNat 0)) x1_1.toNat 2)) ≤ 32000) → R 0 0 = D.i 3
  g16 : ∀ x0_0 x0_1 x0_2, I0 x0_0 x0_1 x0_2 → ∀ x1_0 x1_1, I1 x0_0 x0_1 x0_2 x1_0 x1_1 → (1 ≤ a0) → (a0 ≤ 30) → (1 ≤ a2) → (a2 ≤ 64) → (1 ≤ (a1.length : Int)) → ((a1.length : Int) ≤ 8) → (x0_2 < (a1.length : Int)) → (1 ≤ ((D.rows (gt a1 x0_2.toNat 0)).length : Int)) → (((D.rows (gt a1 x0_2.toNat 0)).length : Int) ≤ 30) → (x1_1 < ((D.rows (gt a1 x0_2.toNat 0)).length : Int)) → ((((D.rows (gt (D.rows (gt a1 x0_2.toNat 0)) x1_1.toNat 0)).length : Int)) = x0_1) → (1 ≤ (D.int (gt (D.rows (gt a1 x0_2.toNat 0)) x1_1.toNat 2))) → ((D.int (gt (D.rows (gt a1 x0_2.toNat 0)) x1_1.toNat 2)) ≤ 32000) → ((-32000) ≤ (D.int (gt (D.rows (gt a1 x0_2.toNat 0)) x1_1.toNat 1))) → (¬ (D.int (gt (D.rows (gt a1 x0_2.toNat 0)) x1_1.toNat 1)) ≤ 32000) → R 0 0 = D.i 14
  g17 : ∀ x0_0 x0_1 x0_2, I0 x0_0 x0_1 x0_2 → ∀ x1_0 x1_1, I1 x0_0 x0_1 x0_2 x1_0 x1_1 → (1 ≤ a0) → (a0 ≤ 30) → (1 ≤ a2) → (a2 ≤ 64) → (1 ≤ (a1.length : Int)) → ((a1.length : Int) ≤ 8) → (x0_2 < (a1.length : Int)) → (1 ≤ ((D.rows (gt a1 x0_2.toNat 0)).length : Int)) → (((D.rows (gt a1 x0_2.toNat 0)).length : Int) ≤ 30) → (x1_1 < ((D.rows (gt a1 x0_2.toNat 0)).length : Int)) → ((((D.rows (gt (D.rows (gt a1 x0_2.toNat 0)) x1_1.toNat 0)).length : Int)) = x0_1) → (1 ≤ (D.int (gt (D.rows (gt a1 x0_2.toNat 0)) x1_1.toNat 2))) → ((D.int (gt (D.rows (gt a1 x0_2.toNat 0)) x1_1.toNat 2)) ≤ 32000) → ((-32000) ≤ (D.int (gt (D.rows (gt a1 x0_2.toNat 0)) x1_1.toNat 1))) → ((D.int (gt (D.rows (gt a1 x0_2.toNat 0)) x1_1.toNat 1)) ≤ 32000) → -9223372036854775808 ≤ (0 - (D.int (gt (D.rows (gt a1 x0_2.toNat 0)) x1_1.toNat 1))) ∧ (0 - (D.int (gt (D.rows (gt a1 x0_2.toNat 0)) x1_1.toNat 1))) ≤ 9223372036854775807
  i2 : ∀ x0_0 x0_1 x0_2, I0 x0_0 x0_1 x0_2 → ∀ x1_0 x1_1, I1 x0_0 x0_1 x0_2 x1_0 x1_1 → (1 ≤ a0) → (a0 ≤ 30) → (1 ≤ a2) → (a2 ≤ 64) → (1 ≤ (a1.length : Int)) → ((a1.length : Int) ≤ 8) → (x0_2 < (a1.length : Int)) → (1 ≤ ((D.rows (gt a1 x0_2.toNat 0)).length : Int)) → (((D.rows (gt a1 x0_2.toNat 0)).length : Int) ≤ 30) → (x1_1 < ((D.rows (gt a1 x0_2.toNat 0)).length : Int)) → ((((D.rows (gt (D.rows (gt a1 x0_2.toNat 0)) x1_1.toNat 0)).length : Int)) = x0_1) → (1 ≤ (D.int (gt (D.rows (gt a1 x0_2.toNat 0)) x1_1.toNat 2))) → ((D.int (gt (D.rows (gt a1 x0_2.toNat 0)) x1_1.toNat 2)) ≤ 32000) → ((-32000) ≤ (D.int (gt (D.rows (gt a1 x0_2.toNat 0)) x1_1.toNat 1))) → ((D.int (gt (D.rows (gt a1 x0_2.toNat 0)) x1_1.toNat 1)) ≤ 32000) → I2 x0_0 x0_1 x0_2 x1_0 x1_1 x1_0 (mxI (D.int (gt (D.rows (gt a1 x0_2.toNat 0)) x1_1.toNat 1)) (0 - (D.int (gt (D.rows (gt a1 x0_2.toNat 0)) x1_1.toNat 1)))) 0
  g19 : ∀ x0_0 x0_1 x0_2, I0 x0_0 x0_1 x0_2 → ∀ x1_0 x1_1, I1 x0_0 x0_1 x0_2 x1_0 x1_1 → ∀ x2_0 x2_1 x2_2, I2 x0_0 x0_1 x0_2 x1_0 x1_1 x2_0 x2_1 x2_2 → (1 ≤ a0) → (a0 ≤ 30) → (1 ≤ a2) → (a2 ≤ 64) → (1 ≤ (a1.length : Int)) → ((a1.length : Int) ≤ 8) → (x0_2 < (a1.length : Int)) → (1 ≤ ((D.rows (gt a1 x0_2.toNat 0)).length : Int)) → (((D.rows (gt a1 x0_2.toNat 0)).length : Int) ≤ 30) → (x1_1 < ((D.rows (gt a1 x0_2.toNat 0)).length : Int)) → ((((D.rows (gt (D.rows (gt a1 x0_2.toNat 0)) x1_1.toNat 0)).length : Int)) = x0_1) → (1 ≤ (D.int (gt (D.rows (gt a1 x0_2.toNat 0)) x1_1.toNat 2))) → ((D.int (gt (D.rows (gt a1 x0_2.toNat 0)) x1_1.toNat 2)) ≤ 32000) → ((-32000) ≤ (D.int (gt (D.rows (gt a1 x0_2.toNat 0)) x1_1.toNat 1))) → ((D.int (gt (D.rows (gt a1 x0_2.toNat 0)) x1_1.toNat 1)) ≤ 32000) → (x2_2 < x0_1) → 0 ≤ x2_2
  g20 : ∀ x0_0 x0_1 x0_2, I0 x0_0 x0_1 x0_2 → ∀ x1_0 x1_1, I1 x0_0 x0_1 x0_2 x1_0 x1_1 → ∀ x2_0 x2_1 x2_2, I2 x0_0 x0_1 x0_2 x1_0 x1_1 x2_0 x2_1 x2_2 → (1 ≤ a0) → (a0 ≤ 30) → (1 ≤ a2) → (a2 ≤ 64) → (1 ≤ (a1.length : Int)) → ((a1.length : Int) ≤ 8) → (x0_2 < (a1.length : Int)) → (1 ≤ ((D.rows (gt a1 x0_2.toNat 0)).length : Int)) → (((D.rows (gt a1 x0_2.toNat 0)).length : Int) ≤ 30) → (x1_1 < ((D.rows (gt a1 x0_2.toNat 0)).length : Int)) → ((((D.rows (gt (D.rows (gt a1 x0_2.toNat 0)) x1_1.toNat 0)).length : Int)) = x0_1) → (1 ≤ (D.int (gt (D.rows (gt a1 x0_2.toNat 0)) x1_1.toNat 2))) → ((D.int (gt (D.rows (gt a1 x0_2.toNat 0)) x1_1.toNat 2)) ≤ 32000) → ((-32000) ≤ (D.int (gt (D.rows (gt a1 x0_2.toNat 0)) x1_1.toNat 1))) → ((D.int (gt (D.rows (gt a1 x0_2.toNat 0)) x1_1.toNat 1)) ≤ 32000) → (x2_2 < x0_1) → x2_2 < (((D.rows (gt (D.rows (gt a1 x0_2.toNat 0)) x1_1.toNat 0)).length : Int))
  g21 : ∀ x0_0 x0_1 x0_2, I0 x0_0 x0_1 x0_2 → ∀ x1_0 x1_1, I1 x0_0 x0_1 x0_2 x1_0 x1_1 → ∀ x2_0 x2_1 x2_2, I2 x0_0 x0_1 x0_2 x1_0 x1_1 x2_0 x2_1 x2_2 → (1 ≤ a0) → (a0 ≤ 30) → (1 ≤ a2) → (a2 ≤ 64) → (1 ≤ (a1.length : Int)) → ((a1.length : Int) ≤ 8) → (x0_2 < (a1.length : Int)) → (1 ≤ ((D.rows (gt a1 x0_2.toNat 0)).length : Int)) → (((D.rows (gt a1 x0_2.toNat 0)).length : Int) ≤ 30) → (x1_1 < ((D.rows (gt a1 x0_2.toNat 0)).length : Int)) → ((((D.rows (gt (D.rows (gt a1 x0_2.toNat 0)) x1_1.toNat 0)).length : Int)) = x0_1) → (1 ≤ (D.int (gt (D.rows (gt a1 x0_2.toNat 0)) x1_1.toNat 2))) → ((D.int (gt (D.rows (gt a1 x0_2.toNat 0)) x1_1.toNat 2)) ≤ 32000) → ((-32000) ≤ (D.int (gt (D.rows (gt a1 x0_2.toNat 0)) x1_1.toNat 1))) → ((D.int (gt (D.rows (gt a1 x0_2.toNat 0)) x1_1.toNat 1)) ≤ 32000) → (x2_2 < x0_1) → ((-32000) ≤ (D.int (gt (D.rows (gt (D.rows (gt a1 x0_2.toNat 0)) x1_1.toNat 0)) x2_2.toNat 0))) → (¬ (D.int (gt (D.rows (gt (D.rows (gt a1 x0_2.toNat 0)) x1_1.toNat 0)) x2_2.toNat 0)) ≤ 32000) → R 0 0 = D.i 14
  g22 : ∀ x0_0 x0_1 x0_2, I0 x0_0 x0_1 x0_2 → ∀ x1_0 x1_1, I1 x0_0 x0_1 x0_2 x1_0 x1_1 → ∀ x2_0 x2_1 x2_2, I2 x0_0 x0_1 x0_2 x1_0 x1_1 x2_0 x2_1 x2_2 → (1 ≤ a0) → (a0 ≤ 30) → (1 ≤ a2) → (a2 ≤ 64) → (1 ≤ (a1.length : Int)) → ((a1.length : Int) ≤ 8) → (x0_2 < (a1.length : Int)) → (1 ≤ ((D.rows (gt a1 x0_2.toNat 0)).length : Int)) → (((D.rows (gt a1 x0_2.toNat 0)).length : Int) ≤ 30) → (x1_1 < ((D.rows (gt a1 x0_2.toNat 0)).length : Int)) → ((((D.rows (gt (D.rows (gt a1 x0_2.toNat 0)) x1_1.toNat 0)).length : Int)) = x0_1) → (1 ≤ (D.int (gt (D.rows (gt a1 x0_2.toNat 0)) x1_1.toNat 2))) → ((D.int (gt (D.rows (gt a1 x0_2.toNat 0)) x1_1.toNat 2)) ≤ 32000) → ((-32000) ≤ (D.int (gt (D.rows (gt a1 x0_2.toNat 0)) x1_1.toNat 1))) → ((D.int (gt (D.rows (gt a1 x0_2.toNat 0)) x1_1.toNat 1)) ≤ 32000) → (x2_2 < x0_1) → ((-32000) ≤ (D.int (gt (D.rows (gt (D.rows (gt a1 x0_2.toNat 0)) x1_1.toNat 0)) x2_2.toNat 0))) → ((D.int (gt (D.rows (gt (D.rows (gt a1 x0_2.toNat 0)) x1_1.toNat 0)) x2_2.toNat 0)) ≤ 32000) → 0 ≤ x2_2
  g23 : ∀ x0_0 x0_1 x0_2, I0 x0_0 x0_1 x0_2 → ∀ x1_0 x1_1, I1 x0_0 x0_1 x0_2 x1_0 x1_1 → ∀ x2_0 x2_1 x2_2, I2 x0_0 x0_1 x0_2 x1_0 x1_1 x2_0 x2_1 x2_2 → (1 ≤ a0) → (a0 ≤ 30) → (1 ≤ a2) → (a2 ≤ 64) → (1 ≤ (a1.length : Int)) → ((a1.length : Int) ≤ 8) → (x0_2 < (a1.length : Int)) → (1 ≤ ((D.rows (gt a1 x0_2.toNat 0)).length : Int)) → (((D.rows (gt a1 x0_2.toNat 0)).length : Int) ≤ 30) → (x1_1 < ((D.rows (gt a1 x0_2.toNat 0)).length : Int)) → ((((D.rows (gt (D.rows (gt a1 x0_2.toNat 0)) x1_1.toNat 0)).length : Int)) = x0_1) → (1 ≤ (D.int (gt (D.rows (gt a1 x0_2.toNat 0)) x1_1.toNat 2))) → ((D.int (gt (D.rows (gt a1 x0_2.toNat 0)) x1_1.toNat 2)) ≤ 32000) → ((-32000) ≤ (D.int (gt (D.rows (gt a1 x0_2.toNat 0)) x1_1.toNat 1))) → ((D.int (gt (D.rows (gt a1 x0_2.toNat 0)) x1_1.toNat 1)) ≤ 32000) → (x2_2 < x0_1) → ((-32000) ≤ (D.int (gt (D.rows (gt (D.rows (gt a1 x0_2.toNat 0)) x1_1.toNat 0)) x2_2.toNat 0))) → ((D.int (gt (D.rows (gt (D.rows (gt a1 x0_2.toNat 0)) x1_1.toNat 0)) x2_2.toNat 0)) ≤ 32000) → x2_2 < (((D.rows (gt (D.rows (gt a1 x0_2.toNat 0)) x1_1.toNat 0)).length : Int))
  g26 : ∀ x0_0 x0_1 x0_2, I0 x0_0 x0_1 x0_2 → ∀ x1_0 x1_1, I1 x0_0 x0_1 x0_2 x1_0 x1_1 → ∀ x2_0 x2_1 x2_2, I2 x0_0 x0_1 x0_2 x1_0 x1_1 x2_0 x2_1 x2_2 → (1 ≤ a0) → (a0 ≤ 30) → (1 ≤ a2) → (a2 ≤ 64) → (1 ≤ (a1.length : Int)) → ((a1.length : Int) ≤ 8) → (x0_2 < (a1.length : Int)) → (1 ≤ ((D.rows (gt a1 x0_2.toNat 0)).length : Int)) → (((D.rows (gt a1 x0_2.toNat 0)).length : Int) ≤ 30) → (x1_1 < ((D.rows (gt a1 x0_2.toNat 0)).length : Int)) → ((((D.rows (gt (D.rows (gt a1 x0_2.toNat 0)) x1_1.toNat 0)).length : Int)) = x0_1) → (1 ≤ (D.int (gt (D.rows (gt a1 x0_2.toNat 0)) x1_1.toNat 2))) → ((D.int (gt (D.rows (gt a1 x0_2.toNat 0)) x1_1.toNat 2)) ≤ 32000) → ((-32000) ≤ (D.int (gt (D.rows (gt a1 x0_2.toNat 0)) x1_1.toNat 1))) → ((D.int (gt (D.rows (gt a1 x0_2.toNat 0)) x1_1.toNat 1)) ≤ 32000) → (x2_2 < x0_1) → ((-32000) ≤ (D.int (gt (D.rows (gt (D.rows (gt a1 x0_2.toNat 0)) x1_1.toNat 0)) x2_2.toNat 0))) → ((D.int (gt (D.rows (gt (D.rows (gt a1 x0_2.toNat 0)) x1_1.toNat 0)) x2_2.toNat 0)) ≤ 32000) → -9223372036854775808 ≤ (0 - (D.int (gt (D.rows (gt (D.rows (gt a1 x0_2.toNat 0)) x1_1.toNat 0)) x2_2.toNat 0))) ∧ (0 - (D.int (gt (D.rows (gt (D.rows (gt a1 x0_2.toNat 0)) x1_1.toNat 0)) x2_2.toNat 0))) ≤ 9223372036854775807
  g27 : ∀ x0_0 x0_1 x0_2, I0 x0_0 x0_1 x0_2 → ∀ x1_0 x1_1, I1 x0_0 x0_1 x0_2 x1_0 x1_1 → ∀ x2_0 x2_1 x2_2, I2 x0_0 x0_1 x0_2 x1_0 x1_1 x2_0 x2_1 x2_2 → (1 ≤ a0) → (a0 ≤ 30) → (1 ≤ a2) → (a2 ≤ 64) → (1 ≤ (a1.length : Int)) → ((a1.length : Int) ≤ 8) → (x0_2 < (a1.length : Int)) → (1 ≤ ((D.rows (gt a1 x0_2.toNat 0)).length : Int)) → (((D.rows (gt a1 x0_2.toNat 0)).length : Int) ≤ 30) → (x1_1 < ((D.rows (gt a1 x0_2.toNat 0)).length : Int)) → ((((D.rows (gt (D.rows (gt a1 x0_2.toNat 0)) x1_1.toNat 0)).length : Int)) = x0_1) → (1 ≤ (D.int (gt (D.rows (gt a1 x0_2.toNat 0)) x1_1.toNat 2))) → ((D.int (gt (D.rows (gt a1 x0_2.toNat 0)) x1_1.toNat 2)) ≤ 32000) → ((-32000) ≤ (D.int (gt (D.rows (gt a1 x0_2.toNat 0)) x1_1.toNat 1))) → ((D.int (gt (D.rows (gt a1 x0_2.toNat 0)) x1_1.toNat 1)) ≤ 32000) → (x2_2 < x0_1) → ((-32000) ≤ (D.int (gt (D.rows (gt (D.rows (gt a1 x0_2.toNat 0)) x1_1.toNat 0)) x2_2.toNat 0))) → ((D.int (gt (D.rows (gt (D.rows (gt a1 x0_2.toNat 0)) x1_1.toNat 0)) x2_2.toNat 0)) ≤ 32000) → -9223372036854775808 ≤ (a2 * (mxI (D.int (gt (D.rows (gt (D.rows (gt a1 x0_2.toNat 0)) x1_1.toNat 0)) x2_2.toNat 0)) (0 - (D.int (gt (D.rows (gt (D.rows (gt a1 x0_2.toNat 0)) x1_1.toNat 0)) x2_2.toNat 0))))) ∧ (a2 * (mxI (D.int (gt (D.rows (gt (D.rows (gt a1 x0_2.toNat 0)) x1_1.toNat 0)) x2_2.toNat 0)) (0 - (D.int (gt (D.rows (gt (D.rows (gt a1 x0_2.toNat 0)) x1_1.toNat 0)) x2_2.toNat 0))))) ≤ 9223372036854775807
  g28 : ∀ x0_0 x0_1 x0_2, I0 x0_0 x0_1 x0_2 → ∀ x1_0 x1_1, I1 x0_0 x0_1 x0_2 x1_0 x1_1 → ∀ x2_0 x2_1 x2_2, I2 x0_0 x0_1 x0_2 x1_0 x1_1 x2_0 x2_1 x2_2 → (1 ≤ a0) → (a0 ≤ 30) → (1 ≤ a2) → (a2 ≤ 64) → (1 ≤ (a1.length : Int)) → ((a1.length : Int) ≤ 8) → (x0_2 < (a1.length : Int)) → (1 ≤ ((D.rows (gt a1 x0_2.toNat 0)).length : Int)) → (((D.rows (gt a1 x0_2.toNat 0)).length : Int) ≤ 30) → (x1_1 < ((D.rows (gt a1 x0_2.toNat 0)).length : Int)) → ((((D.rows (gt (D.rows (gt a1 x0_2.toNat 0)) x1_1.toNat 0)).length : Int)) = x0_1) → (1 ≤ (D.int (gt (D.rows (gt a1 x0_2.toNat 0)) x1_1.toNat 2))) → ((D.int (gt (D.rows (gt a1 x0_2.toNat 0)) x1_1.toNat 2)) ≤ 32000) → ((-32000) ≤ (D.int (gt (D.rows (gt a1 x0_2.toNat 0)) x1_1.toNat 1))) → ((D.int (gt (D.rows (gt a1 x0_2.toNat 0)) x1_1.toNat 1)) ≤ 32000) → (x2_2 < x0_1) → ((-32000) ≤ (D.int (gt (D.rows (gt (D.rows (gt a1 x0_2.toNat 0)) x1_1.toNat 0)) x2_2.toNat 0))) → ((D.int (gt (D.rows (gt (D.rows (gt a1 x0_2.toNat 0)) x1_1.toNat 0)) x2_2.toNat 0)) ≤ 32000) → -9223372036854775808 ≤ (x2_1 + (a2 * (mxI (D.int (gt (D.rows (gt (D.rows (gt a1 x0_2.toNat 0)) x1_1.toNat 0)) x2_2.toNat 0)) (0 - (D.int (gt (D.rows (gt (D.rows (gt a1 x0_2.toNat 0)) x1_1.toNat 0)) x2_2.toNat 0)))))) ∧ (x2_1 + (a2 * (mxI (D.int (gt (D.rows (gt (D.rows (gt a1 x0_2.toNat 0)) x1_1.toNat 0)) x2_2.toNat 0)) (0 - (D.int (gt (D.rows (gt (D.rows (gt a1 x0_2.toNat 0)) x1_1.toNat 0)) x2_2.toNat 0)))))) ≤ 9223372036854775807
  g29 : ∀ x0_0 x0_1 x0_2, I0 x0_0 x0_1 x0_2 → ∀ x1_0 x1_1, I1 x0_0 x0_1 x0_2 x1_0 x1_1 → ∀ x2_0 x2_1 x2_2, I2 x0_0 x0_1 x0_2 x1_0 x1_1 x2_0 x2_1 x2_2 → (1 ≤ a0) → (a0 ≤ 30) → (1 ≤ a2) → (a2 ≤ 64) → (1 ≤ (a1.length : Int)) → ((a1.length : Int) ≤ 8) → (x0_2 < (a1.length : Int)) → (1 ≤ ((D.rows (gt a1 x0_2.toNat 0)).length : Int)) → (((D.rows (gt a1 x0_2.toNat 0)).length : Int) ≤ 30) → (x1_1 < ((D.rows (gt a1 x0_2.toNat 0)).length : Int)) → ((((D.rows (gt (D.rows (gt a1 x0_2.toNat 0)) x1_1.toNat 0)).length : Int)) = x0_1) → (1 ≤ (D.int (gt (D.rows (gt a1 x0_2.toNat 0)) x1_1.toNat 2))) → ((D.int (gt (D.rows (gt a1 x0_2.toNat 0)) x1_1.toNat 2)) ≤ 32000) → ((-32000) ≤ (D.int (gt (D.rows (gt a1 x0_2.toNat 0)) x1_1.toNat 1))) → ((D.int (gt (D.rows (gt a1 x0_2.toNat 0)) x1_1.toNat 1)) ≤ 32000) → (x2_2 < x0_1) → ((-32000) ≤ (D.int (gt (D.rows (gt (D.rows (gt a1 x0_2.toNat 0)) x1_1.toNat 0)) x2_2.toNat 0))) → ((D.int (gt (D.rows (gt (D.rows (gt a1 x0_2.toNat 0)) x1_1.toNat 0)) x2_2.toNat 0)) ≤ 32000) → -9223372036854775808 ≤ (x2_2 + 1) ∧ (x2_2 + 1) ≤ 9223372036854775807
  n30 : ∀ x0_0 x0_1 x0_2, I0 x0_0 x0_1 x0_2 → ∀ x1_0 x1_1, I1 x0_0 x0_1 x0_2 x1_0 x1_1 → ∀ x2_0 x2_1 x2_2, I2 x0_0 x0_1 x0_2 x1_0 x1_1 x2_0 x2_1 x2_2 → (1 ≤ a0) → (a0 ≤ 30) → (1 ≤ a2) → (a2 ≤ 64) → (1 ≤ (a1.length : Int)) → ((a1.length : Int) ≤ 8) → (x0_2 < (a1.length : Int)) → (1 ≤ ((D.rows (gt a1 x0_2.toNat 0)).length : Int)) → (((D.rows (gt a1 x0_2.toNat 0)).length : Int) ≤ 30) → (x1_1 < ((D.rows (gt a1 x0_2.toNat 0)).length : Int)) → ((((D.rows (gt (D.rows (gt a1 x0_2.toNat 0)) x1_1.toNat 0)).length : Int)) = x0_1) → (1 ≤ (D.int (gt (D.rows (gt a1 x0_2.toNat 0)) x1_1.toNat 2))) → ((D.int (gt (D.rows (gt a1 x0_2.toNat 0)) x1_1.toNat 2)) ≤ 32000) → ((-32000) ≤ (D.int (gt (D.rows (gt a1 x0_2.toNat 0)) x1_1.toNat 1))) → ((D.int (gt (D.rows (gt a1 x0_2.toNat 0)) x1_1.toNat 1)) ≤ 32000) → (x2_2 < x0_1) → ((-32000) ≤ (D.int (gt (D.rows (gt (D.rows (gt a1 x0_2.toNat 0)) x1_1.toNat 0)) x2_2.toNat 0))) → ((D.int (gt (D.rows (gt (D.rows (gt a1 x0_2.toNat 0)) x1_1.toNat 0)) x2_2.toNat 0)) ≤ 32000) → I2 x0_0 x0_1 x0_2 x1_0 x1_1 x2_0 (x2_1 + (a2 * (mxI (D.int (gt (D.rows (gt (D.rows (gt a1 x0_2.toNat 0)) x1_1.toNat 0)) x2_2.toNat 0)) (0 - (D.int (gt (D.rows (gt (D.rows (gt a1 x0_2.toNat 0)) x1_1.toNat 0)) x2_2.toNat 0)))))) (x2_2 + 1) ∧ m2 x0_0 x0_1 x0_2 x1_0 x1_1 x2_0 (x2_1 + (a2 * (mxI (D.int (gt (D.rows (gt (D.rows (gt a1 x0_2.toNat 0)) x1_1.toNat 0)) x2_2.toNat 0)) (0 - (D.int (gt (D.rows (gt (D.rows (gt a1 x0_2.toNat 0)) x1_1.toNat 0)) x2_2.toNat 0)))))) (x2_2 + 1) < m2 x0_0 x0_1 x0_2 x1_0 x1_1 x2_0 x2_1 x2_2
  g31 : ∀ x0_0 x0_1 x0_2, I0 x0_0 x0_1 x0_2 → ∀ x1_0 x1_1, I1 x0_0 x0_1 x0_2 x1_0 x1_1 → ∀ x2_0 x2_1 x2_2, I2 x0_0 x0_1 x0_2 x1_0 x1_1 x2_0 x2_1 x2_2 → (1 ≤ a0) → (a0 ≤ 30) → (1 ≤ a2) → (a2 ≤ 64) → (1 ≤ (a1.length : Int)) → ((a1.length : Int) ≤ 8) → (x0_2 < (a1.length : Int)) → (1 ≤ ((D.rows (gt a1 x0_2.toNat 0)).length : Int)) → (((D.rows (gt a1 x0_2.toNat 0)).length : Int) ≤ 30) → (x1_1 < ((D.rows (gt a1 x0_2.toNat 0)).length : Int)) → ((((D.rows (gt (D.rows (gt a1 x0_2.toNat 0)) x1_1.toNat 0)).length : Int)) = x0_1) → (1 ≤ (D.int (gt (D.rows (gt a1 x0_2.toNat 0)) x1_1.toNat 2))) → ((D.int (gt (D.rows (gt a1 x0_2.toNat 0)) x1_1.toNat 2)) ≤ 32000) → ((-32000) ≤ (D.int (gt (D.rows (gt a1 x0_2.toNat 0)) x1_1.toNat 1))) → ((D.int (gt (D.rows (gt a1 x0_2.toNat 0)) x1_1.toNat 1)) ≤ 32000) → (x2_2 < x0_1) → (¬ (-32000) ≤ (D.int (gt (D.rows (gt (D.rows (gt a1 x0_2.toNat 0)) x1_1.toNat 0)) x2_2.toNat 0))) → R 0 0 = D.i 14
  g32 : ∀ x0_0 x0_1 x0_2, I0 x0_0 x0_1 x0_2 → ∀ x1_0 x1_1, I1 x0_0 x0_1 x0_2 x1_0 x1_1 → ∀ x2_0 x2_1 x2_2, I2 x0_0 x0_1 x0_2 x1_0 x1_1 x2_0 x2_1 x2_2 → (1 ≤ a0) → (a0 ≤ 30) → (1 ≤ a2) → (a2 ≤ 64) → (1 ≤ (a1.length : Int)) → ((a1.length : Int) ≤ 8) → (x0_2 < (a1.length : Int)) → (1 ≤ ((D.rows (gt a1 x0_2.toNat 0)).length : Int)) → (((D.rows (gt a1 x0_2.toNat 0)).length : Int) ≤ 30) → (x1_1 < ((D.rows (gt a1 x0_2.toNat 0)).length : Int)) → ((((D.rows (gt (D.rows (gt a1 x0_2.toNat 0)) x1_1.toNat 0)).length : Int)) = x0_1) → (1 ≤ (D.int (gt (D.rows (gt a1 x0_2.toNat 0)) x1_1.toNat 2))) → ((D.int (gt (D.rows (gt a1 x0_2.toNat 0)) x1_1.toNat 2)) ≤ 32000) → ((-32000) ≤ (D.int (gt (D.rows (gt a1 x0_2.toNat 0)) x1_1.toNat 1))) → ((D.int (gt (D.rows (gt a1 x0_2.toNat 0)) x1_1.toNat 1)) ≤ 32000) → (¬ x2_2 < x0_1) → (32000 < x2_1) → R 0 0 = D.i 14
  g33 : ∀ x0_0 x0_1 x0_2, I0 x0_0 x0_1 x0_2 → ∀ x1_0 x1_1, I1 x0_0 x0_1 x0_2 x1_0 x1_1 → ∀ x2_0 x2_1 x2_2, I2 x0_0 x0_1 x0_2 x1_0 x1_1 x2_0 x2_1 x2_2 → (1 ≤ a0) → (a0 ≤ 30) → (1 ≤ a2) → (a2 ≤ 64) → (1 ≤ (a1.length : Int)) → ((a1.length : Int) ≤ 8) → (x0_2 < (a1.length : Int)) → (1 ≤ ((D.rows (gt a1 x0_2.toNat 0)).length : Int)) → (((D.rows (gt a1 x0_2.toNat 0)).length : Int) ≤ 30) → (x1_1 < ((D.rows (gt a1 x0_2.toNat 0)).length : Int)) → ((((D.rows (gt (D.rows (gt a1 x0_2.toNat 0)) x1_1.toNat 0)).length : Int)) = x0_1) → (1 ≤ (D.int (gt (D.rows (gt a1 x0_2.toNat 0)) x1_1.toNat 2))) → ((D.int (gt (D.rows (gt a1 x0_2.toNat 0)) x1_1.toNat 2)) ≤ 32000) → ((-32000) ≤ (D.int (gt (D.rows (gt a1 x0_2.toNat 0)) x1_1.toNat 1))) → ((D.int (gt (D.rows (gt a1 x0_2.toNat 0)) x1_1.toNat 1)) ≤ 32000) → (¬ x2_2 < x0_1) → (¬ 32000 < x2_1) → -9223372036854775808 ≤ (x1_1 + 1) ∧ (x1_1 + 1) ≤ 9223372036854775807
  n34 : ∀ x0_0 x0_1 x0_2, I0 x0_0 x0_1 x0_2 → ∀ x1_0 x1_1, I1 x0_0 x0_1 x0_2 x1_0 x1_1 → ∀ x2_0 x2_1 x2_2, I2 x0_0 x0_1 x0_2 x1_0 x1_1 x2_0 x2_1 x2_2 → (1 ≤ a0) → (a0 ≤ 30) → (1 ≤ a2) → (a2 ≤ 64) → (1 ≤ (a1.length : Int)) → ((a1.length : Int) ≤ 8) → (x0_2 < (a1.length : Int)) → (1 ≤ ((D.rows (gt a1 x0_2.toNat 0)).length : Int)) → (((D.rows (gt a1 x0_2.toNat 0)).length : Int) ≤ 30) → (x1_1 < ((D.rows (gt a1 x0_2.toNat 0)).length : Int)) → ((((D.rows (gt (D.rows (gt a1 x0_2.toNat 0)) x1_1.toNat 0)).length : Int)) = x0_1) → (1 ≤ (D.int (gt (D.rows (gt a1 x0_2.toNat 0)) x1_1.toNat 2))) → ((D.int (gt (D.rows (gt a1 x0_2.toNat 0)) x1_1.toNat 2)) ≤ 32000) → ((-32000) ≤ (D.int (gt (D.rows (gt a1 x0_2.toNat 0)) x1_1.toNat 1))) → ((D.int (gt (D.rows (gt a1 x0_2.toNat 0)) x1_1.toNat 1)) ≤ 32000) → (¬ x2_2 < x0_1) → (¬ 32000 < x2_1) → I1 x0_0 x0_1 x0_2 x2_0 (x1_1 + 1) ∧ m1 x0_0 x0_1 x0_2 x2_0 (x1_1 + 1) < m1 x0_0 x0_1 x0_2 x1_0 x1_1
  g35 : ∀ x0_0 x0_1 x0_2, I0 x0_0 x0_1 x0_2 → ∀ x1_0 x1_1, I1 x0_0 x0_1 x0_2 x1_0 x1_1 → (1 ≤ a0) → (a0 ≤ 30) → (1 ≤ a2) → (a2 ≤ 64) → (1 ≤ (a1.length : Int)) → ((a1.length : Int) ≤ 8) → (x0_2 < (a1.length : Int)) → (1 ≤ ((D.rows (gt a1 x0_2.toNat 0)).length : Int)) → (((D.rows (gt a1 x0_2.toNat 0)).length : Int) ≤ 30) → (x1_1 < ((D.rows (gt a1 x0_2.toNat 0)).length : Int)) → ((((D.rows (gt (D.rows (gt a1 x0_2.toNat 0)) x1_1.toNat 0)).length : Int)) = x0_1) → (1 ≤ (D.int (gt (D.rows (gt a1 x0_2.toNat 0)) x1_1.toNat 2))) → ((D.int (gt (D.rows (gt a1 x0_2.toNat 0)) x1_1.toNat 2)) ≤ 32000) → (¬ (-32000) ≤ (D.int (gt (D.rows (gt a1 x0_2.toNat 0)) x1_1.toNat 1))) → R 0 0 = D.i 14
  g36 : ∀ x0_0 x0_1 x0_2, I0 x0_0 x0_1 x0_2 → ∀ x1_0 x1_1, I1 x0_0 x0_1 x0_2 x1_0 x1_1 → (1 ≤ a0) → (a0 ≤ 30) → (1 ≤ a2) → (a2 ≤ 64) → (1 ≤ (a1.length : Int)) → ((a1.length : Int) ≤ 8) → (x0_2 < (a1.length : Int)) → (1 ≤ ((D.rows (gt a1 x0_2.toNat 0)).length : Int)) → (((D.rows (gt a1 x0_2.toNat 0)).length : Int) ≤ 30) → (x1_1 < ((D.rows (gt a1 x0_2.toNat 0)).length : Int)) → ((((D.rows (gt (D.rows (gt a1 x0_2.toNat 0)) x1_1.toNat 0)).length : Int)) = x0_1) → (¬ 1 ≤ (D.int (gt (D.rows (gt a1 x0_2.toNat 0)) x1_1.toNat 2))) → R 0 0 = D.i 3
  g37 : ∀ x0_0 x0_1 x0_2, I0 x0_0 x0_1 x0_2 → ∀ x1_0 x1_1, I1 x0_0 x0_1 x0_2 x1_0 x1_1 → (1 ≤ a0) → (a0 ≤ 30) → (1 ≤ a2) → (a2 ≤ 64) → (1 ≤ (a1.length : Int)) → ((a1.length : Int) ≤ 8) → (x0_2 < (a1.length : Int)) → (1 ≤ ((D.rows (gt a1 x0_2.toNat 0)).length : Int)) → (((D.rows (gt a1 x0_2.toNat 0)).length : Int) ≤ 30) → (¬ x1_1 < ((D.rows (gt a1 x0_2.toNat 0)).length : Int)) → 0 ≤ x0_2
  g38 : ∀ x0_0 x0_1 x0_2, I0 x0_0 x0_1 x0_2 → ∀ x1_0 x1_1, I1 x0_0 x0_1 x0_2 x1_0 x1_1 → (1 ≤ a0) → (a0 ≤ 30) → (1 ≤ a2) → (a2 ≤ 64) → (1 ≤ (a1.length : Int)) → ((a1.length : Int) ≤ 8) → (x0_2 < (a1.length : Int)) → (1 ≤ ((D.rows (gt a1 x0_2.toNat 0)).length : Int)) → (((D.rows (gt a1 x0_2.toNat 0)).length : Int) ≤ 30) → (¬ x1_1 < ((D.rows (gt a1 x0_2.toNat 0)).length : Int)) → x0_2 < (a1.length : Int)
  g39 : ∀ x0_0 x0_1 x0_2, I0 x0_0 x0_1 x0_2 → ∀ x1_0 x1_1, I1 x0_0 x0_1 x0_2 x1_0 x1_1 → (1 ≤ a0) → (a0 ≤ 30) → (1 ≤ a2) → (a2 ≤ 64) → (1 ≤ (a1.length : Int)) → ((a1.length : Int) ≤ 8) → (x0_2 < (a1.length : Int)) → (1 ≤ ((D.rows (gt a1 x0_2.toNat 0)).length : Int)) → (((D.rows (gt a1 x0_2.toNat 0)).length : Int) ≤ 30) → (¬ x1_1 < ((D.rows (gt a1 x0_2.toNat 0)).length : Int)) → -9223372036854775808 ≤ (x0_2 + 1) ∧ (x0_2 + 1) ≤ 9223372036854775807
  n40 : ∀ x0_0 x0_1 x0_2, I0 x0_0 x0_1 x0_2 → ∀ x1_0 x1_1, I1 x0_0 x0_1 x0_2 x1_0 x1_1 → (1 ≤ a0) → (a0 ≤ 30) → (1 ≤ a2) → (a2 ≤ 64) → (1 ≤ (a1.length : Int)) → ((a1.length : Int) ≤ 8) → (x0_2 < (a1.length : Int)) → (1 ≤ ((D.rows (gt a1 x0_2.toNat 0)).length : Int)) → (((D.rows (gt a1 x0_2.toNat 0)).length : Int) ≤ 30) → (¬ x1_1 < ((D.rows (gt a1 x0_2.toNat 0)).length : Int)) → I0 x1_0 ((D.rows (gt a1 x0_2.toNat 0)).length : Int) (x0_2 + 1) ∧ m0 x1_0 ((D.rows (gt a1 x0_2.toNat 0)).length : Int) (x0_2 + 1) < m0 x0_0 x0_1 x0_2
  g41 : ∀ x0_0 x0_1 x0_2, I0 x0_0 x0_1 x0_2 → (1 ≤ a0) → (a0 ≤ 30) → (1 ≤ a2) → (a2 ≤ 64) → (1 ≤ (a1.length : Int)) → ((a1.length : Int) ≤ 8) → (x0_2 < (a1.length : Int)) → (¬ 1 ≤ ((D.rows (gt a1 x0_2.toNat 0)).length : Int)) → R 0 0 = D.i 3
  g42 : ∀ x0_0 x0_1 x0_2, I0 x0_0 x0_1 x0_2 → (1 ≤ a0) → (a0 ≤ 30) → (1 ≤ a2) → (a2 ≤ 64) → (1 ≤ (a1.length : Int)) → ((a1.length : Int) ≤ 8) → (¬ x0_2 < (a1.length : Int)) → R 0 0 = D.i 0
  g43 : (1 ≤ a0) → (a0 ≤ 30) → (1 ≤ a2) → (a2 ≤ 64) → (¬ 1 ≤ (a1.length : Int)) → R 0 0 = D.i 9
  g44 : (1 ≤ a0) → (a0 ≤ 30) → (¬ 1 ≤ a2) → R 0 0 = D.i 3
  g45 : (¬ 1 ≤ a0) → R 0 0 = D.i 3
end HX

namespace HX
open Go Go.Proofs CX
structure V74 (a0_0 : Int) (a0_1 : Int) (a0_2 : Int) (a0_3 : Int) (a0_4 : Int) (a1 : Rows) (R : Nat → Nat → D) (I0 : Rows → Int → Prop) (m0 : Rows → Int → Nat) : Prop where
  i0 : I0 [] 0
  g1 : ∀ x0_0 x0_1, I0 x0_0 x0_1 → (x0_1 < (a1.length : Int)) → 0 ≤ x0_1
  g2 : ∀ x0_0 x0_1, I0 x0_0 x0_1 → (x0_1 < (a1.length : Int)) → x0_1 < (a1.length : Int)
  g3 : ∀ x0_0 x0_1, I0 x0_0 x0_1 → (x0_1 < (a1.length : Int)) → -9223372036854775808 ≤ (x0_1 * a0_4) ∧ (x0_1 * a0_4) ≤ 9223372036854775807
  g4 : ∀ x0_0 x0_1, I0 x0_0 x0_1 → (x0_1 < (a1.length : Int)) → -9223372036854775808 ≤ (a0_3 + (x0_1 * a0_4)) ∧ (a0_3 + (x0_1 * a0_4)) ≤ 9223372036854775807
  g5 : ∀ x0_0 x0_1, I0 x0_0 x0_1 → (x0_1 < (a1.length : Int)) → (x0_0.length + (List.length [[D.i (a0_3 + (x0_1 * a0_4)), D.i a0_2, D.i (D.int (gt a1 x0_1.toNat 0)), D.i 1]])) * 32 ≤ 4294967296 ∧ (x0_0.length + (List.length [[D.i (a0_3 + (x0_1 * a0_4)), D.i a0_2, D.i (D.int (gt a1 x0_1.toNat 0)), D.i 1]])) ≤ 4294967296
  g6 : ∀ x0_0 x0_1, I0 x0_0 x0_1 → (x0_1 < (a1.length : Int)) → -9223372036854775808 ≤ (x0_1 + 1) ∧ (x0_1 + 1) ≤ 9223372036854775807
  n7 : ∀ x0_0 x0_1, I0 x0_0 x0_1 → (x0_1 < (a1.length : Int)) → I0 (x0_0 ++ [[D.i (a0_3 + (x0_1 * a0_4)), D.i a0_2, D.i (D.int (gt a1 x0_1.toNat 0)), D.i 1]]) (x0_1 + 1) ∧ m0 (x0_0 ++ [[D.i (a0_3 + (x0_1 * a0_4)), D.i a0_2, D.i (D.int (gt a1 x0_1.toNat 0)), D.i 1]]) (x0_1 + 1) < m0 x0_0 x0_1
  g8 : ∀ x0_0 x0_1, I0 x0_0 x0_1 → (¬ x0_1 < (a1.length : Int)) → R 0 0 = D.l x0_0
end HX

namespace HX
open Go Go.Proofs CX
structure V75 (a0_0 : Int) (a0_1 : Int) (a0_2 : Int) (a0_3 : Int) (a0_4 : Int) (a1 : Int) (a2 : Int) (R : Nat → Nat → D)  : Prop where
  g0 : R 0 0 = D.i a1
  g1 : R 0 1 = D.i a0_2
  g2 : R 0 2 = D.i a2
  g3 : R 0 3 = D.i 1
end HX

namespace HX
open Go Go.Proofs CX
structure V79 (pre : Nat → List (List D) → Prop) (fn : Nat → List (List D) → Nat → Nat → D) (a0 : Rows) (a1 : Int) (R : Nat → Nat → D) (I0 : Int → Int → Prop) (m0 : Int → Int → Nat) : Prop where
  i0 : I0 0 0
  g1 : ∀ x0_0 x0_1, I0 x0_0 x0_1 → (x0_1 < (a0.length : Int)) → 0 ≤ x0_1
  g2 : ∀ x0_0 x0_1, I0 x0_0 x0_1 → (x0_1 < (a0.length : Int)) → x0_1 < (a0.length : Int)
  g3 : ∀ x0_0 x0_1, I0 x0_0 x0_1 → (x0_1 < (a0.length : Int)) → pre 51 [[D.l [[D.i (D.int (gt a0 x0_1.toNat 0)), D.i 0, D.i a1]]]]
  g4 : ∀ x0_0 x0_1, I0 x0_0 x0_1 → (x0_1 < (a0.length : Int)) → (D.boo (fn 51 [[D.l [[D.i (D.int (gt a0 x0_1.toNat 0)), D.i 0, D.i a1]]]] 0 0) = false) → R 0 0 = D.b (!(decide (0 ≤ x0_1)))
  g5 : ∀ x0_0 x0_1, I0 x0_0 x0_1 → (x0_1 < (a0.length : Int)) → (D.boo (fn 51 [[D.l [[D.i (D.int (gt a0 x0_1.toNat 0)), D.i 0, D.i a1]]]] 0 0) = true) → -9223372036854775808 ≤ (x0_1 + 1) ∧ (x0_1 + 1) ≤ 9223372036854775807
  n6 : ∀ x0_0 x0_1, I0 x0_0 x0_1 → (x0_1 < (a0.length : Int)) → (D.boo (fn 51 [[D.l [[D.i (D.int (gt a0 x0_1.toNat 0)), D.i 0, D.i a1]]]] 0 0) = true) → I0 x0_0 (x0_1 + 1) ∧ m0 x0_0 (x0_1 + 1) < m0 x0_0 x0_1
  g7 : ∀ x0_0 x0_1, I0 x0_0 x0_1 → (¬ x0_1 < (a0.length : Int)) → R 0 0 = D.b (!(decide ((0 : Int) ≤ (-1))))
end HX

namespace HX
open Go Go.Proofs CX
structure V80 (a0 : Rows) (a1 : Rows) (R : Nat → Nat → D) (I0 : Int → Int → Prop) (m0 : Int → Int → Nat) : Prop where
  i0 : I0 0 0
  g1 : ∀ x0_0 x0_1, I0 x0_0 x0_1 → (x0_1 < (a1.length : Int)) → 0 ≤ x0_1
  g2 : ∀ x0_0 x0_1, I0 x0_0 x0_1 → (x0_1 < (a1.length : Int)) → x0_1 < (a1.length : Int)
  g4 : ∀ x0_0 x0_1, I0 x0_0 x0_1 → (x0_1 < (a1.length : Int)) → x0_1 < (a0.length : Int)
  g5 : ∀ x0_0 x0_1, I0 x0_0 x0_1 → (x0_1 < (a1.length : Int)) → -9223372036854775808 ≤ ((D.int (gt a0 x0_1.toNat 0)) * (D.int (gt a1 x0_1.toNat 0))) ∧ ((D.int (gt a0 x0_1.toNat 0)) * (D.int (gt a1 x0_1.toNat 0))) ≤ 9223372036854775807
  g6 : ∀ x0_0 x0_1, I0 x0_0 x0_1 → (x0_1 < (a1.length : Int)) → -9223372036854775808 ≤ (x0_0 + ((D.int (gt a0 x0_1.toNat 0)) * (D.int (gt a1 x0_1.toNat 0)))) ∧ (x0_0 + ((D.int (gt a0 x0_1.toNat 0)) * (D.int (gt a1 x0_1.toNat 0)))) ≤ 9223372036854775807
  g7 : ∀ x0_0 x0_1, I0 x0_0 x0_1 → (x0_1 < (a1.length : Int)) → -9223372036854775808 ≤ (x0_1 + 1) ∧ (x0_1 + 1) ≤ 9223372036854775807
  n8 : ∀ x0_0 x0_1, I0 x0_0 x0_1 → (x0_1 < (a1.length : Int)) → I0 (x0_0 + ((D.int (gt a0 x0_1.toNat 0)) * (D.int (gt a1 x0_1.toNat 0)))) (x0_1 + 1) ∧ m0 (x0_0 + ((D.int (gt a0 x0_1.toNat 0)) * (D.int (gt a1 x0_1.toNat 0)))) (x0_1 + 1) < m0 x0_0 x0_1
  g9 : ∀ x0_0 x0_1, I0 x0_0 x0_1 → (¬ x0_1 < (a1.length : Int)) → R 0 0 = D.i x0_0
end HX

namespace HX
open Go Go.Proofs CX
structure V85 (a0 : Int) (R : Nat → Nat → D)  : Prop where
  g0 : R 0 0 = D.i 0
  g1 : R 0 1 = D.i 0
  g2 : R 0 2 = D.i 0
  g3 : R 0 3 = D.i a0
  g4 : R 0 4 = D.i 1
  g5 : R 0 5 = D.i 0
  g6 : R 0 6 = D.i (-1048576)
  g7 : R 0 7 = D.i 0
end HX

namespace HX
open Go Go.Proofs CX
structure V138 (a0 : Int) (R : Nat → Nat → D)  : Prop where
  g0 : -9223372036854775808 ≤ (0 - a0) ∧ (0 - a0) ≤ 9223372036854775807
  g1 : R 0 0 = D.i (mxI a0 (0 - a0))
end HX

namespace HX
open Go Go.Proofs CX

def wI (r : List D) : Int := (r.getD 0 .nil).int
theorem gt_wI (l : Rows) (q : Nat) : (gt l q 0).int = wI (l.getD q []) := rfl
theorem drop_row {l : Rows} {q : Nat} (h : q < l.length) : l.drop q = l.getD q [] :: l.drop (q + 1) := by
  rw [List.drop_eq_getElem_cons h, List.getD_eq_getElem?_getD, List.getElem?_eq_getElem h]; rfl
theorem row_mem {l : Rows} {q : Nat} (h : q < l.length) : l.getD q [] ∈ l := by
  rw [List.getD_eq_getElem?_getD, List.getElem?_eq_getElem h]; exact List.getElem_mem h
theorem drop_end {l : Rows} {q : Nat} (h : ¬ (q : Int) < ((l.length : Nat) : Int)) : l.drop q = [] := List.drop_of_length_le (by omega)

theorem mul_bd {a b : Int} (h1 : -32000 ≤ a) (h2 : a ≤ 32000) (h3 : 0 ≤ b) (h4 : b ≤ 64) : -2048000 ≤ a * b ∧ a * b ≤ 2048000 := by
  have e1 := Int.mul_le_mul_of_nonneg_right h2 h3
  have e2 := Int.mul_le_mul_of_nonneg_right h1 h3
  omega

def dot : Rows → Rows → Int → Int
  | r :: l, y :: m, s => dot l m (s + wI r * wI y)
  | _, _, s => s

def dotPre (w x : Rows) : Prop := w.length = x.length ∧ x.length ≤ 30 ∧ (∀ r ∈ w, -32000 ≤ wI r ∧ wI r ≤ 32000) ∧ ∀ r ∈ x, 0 ≤ wI r ∧ wI r ≤ 64

theorem law80 {a0 a1 : Rows} (h : dotPre a0 a1) {R : Nat → Nat → D} (hR : R 0 0 = .i (dot a0 a1 0)) :
    V80 a0 a1 R (fun s x => ∃ r : Nat, x = r ∧ r ≤ a1.length ∧ dot (a0.drop r) (a1.drop r) s = dot a0 a1 0 ∧ -(2048000 * (r : Int)) ≤ s ∧ s ≤ 2048000 * (r : Int)) (fun _ x => (a1.length - x).toNat) := by
  obtain ⟨h1, h2, h3, h4⟩ := h
  have hb : ∀ r : Nat, (r : Int) < ((a1.length : Nat) : Int) → -2048000 ≤ (gt a0 r 0).int * (gt a1 r 0).int ∧ (gt a0 r 0).int * (gt a1 r 0).int ≤ 2048000 := fun r hr =>
    mul_bd (h3 _ (row_mem (by omega))).1 (h3 _ (row_mem (by omega))).2 (h4 _ (row_mem (by omega))).1 (h4 _ (row_mem (by omega))).2
  constructor
  · exact ⟨0, rfl, by omega, rfl, by omega, by omega⟩
  all_goals (intro s x ⟨r, hx, hr, hd, hb1, hb2⟩ hlt; subst hx; (try simp only [Int.toNat_natCast] at *))
  all_goals (try have hb := hb r hlt)
  all_goals (try omega)
  · refine ⟨⟨r + 1, rfl, by omega, ?_, by omega, by omega⟩, by omega⟩
    rw [drop_row (by omega), drop_row (l := a1) (by omega)] at hd
    exact hd
  · rw [hR, ← hd, drop_end hlt]
    cases a0.drop r <;> rfl

def joinsL (number before step : Int) : Rows → Int → Rows
  | [], _ => []
  | r :: l, i => [.i (before + i * step), .i number, .i (wI r), .i 1] :: joinsL number before step l (i + 1)

theorem joinsL_len (number before step : Int) : ∀ (l : Rows) (i : Int), (joinsL number before step l i).length = l.length
  | [], _ => rfl
  | _ :: l, i => by simp [joinsL, joinsL_len number before step l]

def joinsPre (before step : Int) (w : Rows) : Prop := w.length ≤ 30 ∧ -1000 ≤ before ∧ before ≤ 1000 ∧ (step = 1 ∨ step = -1)

theorem law74 {a0_0 a0_1 a0_2 a0_3 a0_4 : Int} {a1 : Rows} (h : joinsPre a0_3 a0_4 a1) {R : Nat → Nat → D} (hR : R 0 0 = .l (joinsL a0_2 a0_3 a0_4 a1 0)) :
    V74 a0_0 a0_1 a0_2 a0_3 a0_4 a1 R (fun o x => ∃ r : Nat, x = r ∧ r ≤ a1.length ∧ o ++ joinsL a0_2 a0_3 a0_4 (a1.drop r) r = joinsL a0_2 a0_3 a0_4 a1 0 ∧ o.length = r) (fun _ x => (a1.length - x).toNat) := by
  obtain ⟨h1, h2, h3, h4⟩ := h
  have hs : ∀ r : Nat, r ≤ a1.length → -30 ≤ (r : Int) * a0_4 ∧ (r : Int) * a0_4 ≤ 30 := by
    intro r hr
    rcases h4 with rfl | rfl <;> omega
  constructor
  · exact ⟨0, rfl, by omega, rfl, rfl⟩
  all_goals (intro s x ⟨r, hx, hr, hd, hl⟩ hlt; subst hx; (try simp only [Int.toNat_natCast, List.length_cons, List.length_nil] at *))
  all_goals (try have hb := hs r hr)
  all_goals (try omega)
  · refine ⟨⟨r + 1, rfl, by omega, ?_, by simp; omega⟩, by omega⟩
    rw [drop_row (by omega)] at hd
    rw [List.append_assoc]
    exact hd
  · rw [hR, ← hd, drop_end hlt]
    simp [joinsL]

theorem law79 {pre : Nat → List (List D) → Prop} {fn : Nat → List (List D) → Nat → Nat → D} (hp : pre 51 = fun _ => True) (hf : fn 51 = holdRes) {a0 : Rows} {a1 : Int} (hlen : a0.length ≤ 9223372036854775807) {R : Nat → Nat → D}
    (hR : R 0 0 = .b (a0.all fun r => decide (0 ≤ wI r) && decide (wI r ≤ a1))) :
    V79 pre fn a0 a1 R (fun _ x => ∃ r : Nat, x = r ∧ r ≤ a0.length ∧ (a0.drop r).all (fun r => decide (0 ≤ wI r) && decide (wI r ≤ a1)) = a0.all fun r => decide (0 ≤ wI r) && decide (wI r ≤ a1)) (fun _ x => (a0.length - x).toNat) := by
  constructor
  · exact ⟨0, rfl, by omega, rfl⟩
  all_goals (intro s x ⟨r, hx, hr, hd⟩ hlt; subst hx; (try simp only [Int.toNat_natCast] at *))
  all_goals (try (intro hc; simp only [hf, holdRes, D.boo, List.all_cons, List.all_nil, within, List.getD_cons_zero, List.getD_cons_succ, D.int, Bool.and_true] at hc))
  all_goals (try omega)
  · rw [hp]; trivial
  · rw [hR, ← hd, drop_row (by omega), List.all_cons]
    have hc : (decide (0 ≤ wI (a0.getD r [])) && decide (wI (a0.getD r []) ≤ a1)) = false := hc
    rw [hc]
    have : (0 : Int) ≤ (r : Int) := by omega
    simp [this]
  · refine ⟨⟨r + 1, rfl, by omega, ?_⟩, by omega⟩
    rw [drop_row (by omega), List.all_cons] at hd
    have hc : (decide (0 ≤ wI (a0.getD r [])) && decide (wI (a0.getD r []) ≤ a1)) = true := hc
    rw [hc] at hd
    simpa using hd
  · rw [hR, ← hd, drop_end hlt]
    rfl

theorem law138 {a0 : Int} (h : -32000 ≤ a0 ∧ a0 ≤ 32000) {R : Nat → Nat → D} (hR : R 0 0 = .i (mxI a0 (0 - a0))) : V138 a0 R := ⟨by omega, hR⟩
end HX

namespace HX
open Go Go.Proofs CX

def lR (r : List D) : Rows := (r.getD 0 .nil).rows
def uB (r : List D) : Int := (r.getD 1 .nil).int
def uT (r : List D) : Int := (r.getD 2 .nil).int
theorem gt_lR (l : Rows) (q : Nat) : (gt l q 0).rows = lR (l.getD q []) := rfl
theorem gt_uB (l : Rows) (q : Nat) : (gt l q 1).int = uB (l.getD q []) := rfl
theorem gt_uT (l : Rows) (q : Nat) : (gt l q 2).int = uT (l.getD q []) := rfl

theorem int_i (n : Int) : (D.i n).int = n := rfl
def wsum (most : Int) : Rows → Int → Option Int
  | [], s => some s
  | r :: l, s => if -32000 ≤ wI r ∧ wI r ≤ 32000 then wsum most l (s + most * mxI (wI r) (0 - wI r)) else none
def unitErr (most before : Int) (u : List D) : Int :=
  if ¬ (((lR u).length : Nat) : Int) = before then 13
  else if ¬ (1 ≤ uT u ∧ uT u ≤ 32000) then 3
  else if ¬ (-32000 ≤ uB u ∧ uB u ≤ 32000) then 14
  else match wsum most (lR u) (mxI (uB u) (0 - uB u)) with
    | none => 14
    | some s => if 32000 < s then 14 else 0
def unitsErr (most before : Int) : Rows → Int
  | [] => 0
  | u :: r => if unitErr most before u = 0 then unitsErr most before r else unitErr most before u
def layErr (most before : Int) (l : Rows) : Int := if 1 ≤ l.length ∧ l.length ≤ 30 then unitsErr most before l else 3
def chkU (most : Int) : Int → Rows → Int
  | _, [] => 0
  | b, row :: r => if layErr most b (lR row) = 0 then chkU most (((lR row).length : Nat) : Int) r else layErr most b (lR row)
def cntErr (inputs : Int) (l : Rows) (most : Int) : Int :=
  if ¬ (1 ≤ inputs ∧ inputs ≤ 30 ∧ 1 ≤ most ∧ most ≤ 64) then 3 else if ¬ (1 ≤ l.length ∧ l.length ≤ 8) then 9 else chkU most inputs l

theorem chk_err {m b e : Int} {l : Rows} {r : Nat} (hr : r < l.length) (h : layErr m b (lR (l.getD r [])) = e) (he : e ≠ 0) : chkU m b (l.drop r) = e := by
  rw [drop_row hr]; simp only [chkU, h, if_neg he]
theorem chk_ok {m b : Int} {l : Rows} {r : Nat} (hr : r < l.length) (h : layErr m b (lR (l.getD r [])) = 0) : chkU m b (l.drop r) = chkU m (((lR (l.getD r [])).length : Nat) : Int) (l.drop (r + 1)) := by
  rw [drop_row hr]; simp only [chkU, h, if_true]
theorem units_err {m b e : Int} {l : Rows} {q : Nat} (hr : q < l.length) (h : unitErr m b (l.getD q []) = e) (he : e ≠ 0) : unitsErr m b (l.drop q) = e := by
  rw [drop_row hr]; simp only [unitsErr, h, if_neg he]
theorem units_ok {m b : Int} {l : Rows} {q : Nat} (hr : q < l.length) (h : unitErr m b (l.getD q []) = 0) : unitsErr m b (l.drop q) = unitsErr m b (l.drop (q + 1)) := by
  rw [drop_row hr]; simp only [unitsErr, h, if_true]
theorem lay_units {m b e : Int} {l : Rows} (h1 : 1 ≤ l.length ∧ l.length ≤ 30) (h : unitsErr m b l = e) : layErr m b l = e := by
  rw [layErr, if_pos h1, h]
theorem wsum_ok {m s : Int} {l : Rows} {q : Nat} (hr : q < l.length) (h : -32000 ≤ wI (l.getD q []) ∧ wI (l.getD q []) ≤ 32000) : wsum m (l.drop q) s = wsum m (l.drop (q + 1)) (s + m * mxI (wI (l.getD q [])) (0 - wI (l.getD q []))) := by
  rw [drop_row hr]; simp only [wsum, if_pos h]
theorem wsum_no {m s : Int} {l : Rows} {q : Nat} (hr : q < l.length) (h : ¬ (-32000 ≤ wI (l.getD q []) ∧ wI (l.getD q []) ≤ 32000)) : wsum m (l.drop q) s = none := by
  rw [drop_row hr]; simp only [wsum, if_neg h]
theorem unit14 {m b : Int} {u : List D} (h1 : (((lR u).length : Nat) : Int) = b) (h2 : 1 ≤ uT u ∧ uT u ≤ 32000) (h : ¬ (-32000 ≤ uB u ∧ uB u ≤ 32000) ∨ wsum m (lR u) (mxI (uB u) (0 - uB u)) = none ∨ ∃ s, wsum m (lR u) (mxI (uB u) (0 - uB u)) = some s ∧ 32000 < s) : unitErr m b u = 14 := by
  rw [unitErr, if_neg (by omega), if_neg (fun h => h h2)]
  split
  · rfl
  · rename_i h0
    have h0 := Classical.not_not.1 h0
    rcases h with h | h | ⟨s, h, hs⟩
    · exact absurd h0 h
    · rw [h]
    · rw [h]; simp only [if_pos hs]
theorem unit0 {m b s : Int} {u : List D} (h1 : (((lR u).length : Nat) : Int) = b) (h2 : 1 ≤ uT u ∧ uT u ≤ 32000) (h3 : -32000 ≤ uB u ∧ uB u ≤ 32000) (h : wsum m (lR u) (mxI (uB u) (0 - uB u)) = some s) (hs : ¬ 32000 < s) : unitErr m b u = 0 := by
  rw [unitErr, if_neg (by omega), if_neg (fun h => h h2), if_neg (fun h => h h3), h]; simp only [if_neg hs]
theorem abs_bd {x : Int} (h : -32000 ≤ x ∧ x ≤ 32000) : 0 ≤ mxI x (0 - x) ∧ mxI x (0 - x) ≤ 32000 := by
  rw [mxI_eq]; omega
theorem mul_bd' {a b : Int} (h1 : 0 ≤ a) (h2 : a ≤ 32000) (h3 : 0 ≤ b) (h4 : b ≤ 64) : 0 ≤ b * a ∧ b * a ≤ 2048000 := by
  have := mul_bd (a := a) (b := b) (by omega) h2 h3 h4
  have e := Int.mul_nonneg h3 h1
  rw [Int.mul_comm b a] at *
  omega

theorem hold_t1 {fn : Nat → List (List D) → Nat → Nat → D} {f : Nat} (hf : fn f = holdRes) (x lo hi : Int) : ((fn f [[.l [[.i x, .i lo, .i hi]]]] 0 0).boo = true) = (lo ≤ x ∧ x ≤ hi) := by
  rw [hf]; simp [holdRes, D.boo, within, D.int]
theorem hold_f1 {fn : Nat → List (List D) → Nat → Nat → D} {f : Nat} (hf : fn f = holdRes) (x lo hi : Int) : ((fn f [[.l [[.i x, .i lo, .i hi]]]] 0 0).boo = false) = ¬ (lo ≤ x ∧ x ≤ hi) := by
  rw [hf]; simp only [holdRes, D.boo, List.all_cons, List.all_nil, within, List.getD_cons_zero, List.getD_cons_succ, D.int, Bool.and_true, Bool.and_eq_false_iff, decide_eq_false_iff_not]
  apply propext; omega
theorem hold_t2 {fn : Nat → List (List D) → Nat → Nat → D} {f : Nat} (hf : fn f = holdRes) (x lo hi x' lo' hi' : Int) : ((fn f [[.l [[.i x, .i lo, .i hi], [.i x', .i lo', .i hi']]]] 0 0).boo = true) = ((lo ≤ x ∧ x ≤ hi) ∧ lo' ≤ x' ∧ x' ≤ hi') := by
  rw [hf]; simp [holdRes, D.boo, within, D.int]
theorem hold_f2 {fn : Nat → List (List D) → Nat → Nat → D} {f : Nat} (hf : fn f = holdRes) (x lo hi x' lo' hi' : Int) : ((fn f [[.l [[.i x, .i lo, .i hi], [.i x', .i lo', .i hi']]]] 0 0).boo = false) = ¬ ((lo ≤ x ∧ x ≤ hi) ∧ lo' ≤ x' ∧ x' ≤ hi') := by
  rw [hf]; simp only [holdRes, D.boo, List.all_cons, List.all_nil, within, List.getD_cons_zero, List.getD_cons_succ, D.int, Bool.and_true, Bool.and_eq_false_iff, decide_eq_false_iff_not]
  apply propext; omega

section
variable (a0 : Int) (a1 : Rows) (a2 : Int)
def cI0 (b x : Int) : Prop := ∃ r : Nat, x = r ∧ r ≤ a1.length ∧ chkU a2 b (a1.drop r) = cntErr a0 a1 a2 ∧ (1 ≤ b ∧ b ≤ 30) ∧ a1.length ≤ 8 ∧ 1 ≤ a2 ∧ a2 ≤ 64
def cI1 (b x y : Int) : Prop := ∃ q : Nat, y = q ∧ q ≤ (lR (a1.getD x.toNat [])).length ∧ (1 ≤ (lR (a1.getD x.toNat [])).length ∧ (lR (a1.getD x.toNat [])).length ≤ 30) ∧ unitsErr a2 b ((lR (a1.getD x.toNat [])).drop q) = unitsErr a2 b (lR (a1.getD x.toNat []))
def cI2 (x y s z : Int) : Prop := ∃ i : Nat, z = i ∧ i ≤ (lR ((lR (a1.getD x.toNat [])).getD y.toNat [])).length ∧
  wsum a2 ((lR ((lR (a1.getD x.toNat [])).getD y.toNat [])).drop i) s = wsum a2 (lR ((lR (a1.getD x.toNat [])).getD y.toNat [])) (mxI (uB ((lR (a1.getD x.toNat [])).getD y.toNat [])) (0 - uB ((lR (a1.getD x.toNat [])).getD y.toNat []))) ∧ 0 ≤ s ∧ s ≤ 32000 + 2048000 * (i : Int)
end

theorem law78 {pre : Nat → List (List D) → Prop} {fn : Nat → List (List D) → Nat → Nat → D} (hp : pre 51 = fun _ => True) (hf : fn 51 = holdRes) (hq : ∀ x, pre 138 [[.i x]] = (-32000 ≤ x ∧ x ≤ 32000)) (hg : ∀ x, fn 138 [[.i x]] 0 0 = .i (mxI x (0 - x)))
    {a0 : Int} {a1 : Rows} {a2 : Int} {R : Nat → Nat → D} (hR : R 0 0 = .i (cntErr a0 a1 a2)) :
    V78 pre fn a0 a1 a2 R (fun _ b x => cI0 a0 a1 a2 b x) (fun _ _ x => (a1.length - x).toNat) (fun _ b x _ y => cI1 a1 a2 b x y) (fun _ _ x _ y => ((lR (a1.getD x.toNat [])).length - y).toNat)
      (fun _ _ x _ y _ s z => cI2 a1 a2 x y s z) (fun _ _ x _ y _ _ z => ((lR ((lR (a1.getD x.toNat [])).getD y.toNat [])).length - z).toNat) := by
  constructor
  case g0 => rw [hp]; trivial
  case g1 => intro h; rw [hold_f2 hf] at h; rw [hR, cntErr, if_pos (by omega)]
  case g2 => intros; rw [hp]; trivial
  case g3 => intro h1 h2; rw [hold_t2 hf] at h1; rw [hold_f1 hf] at h2; omega
  case g4 => intros; rw [hp]; trivial
  case g5 => intro h1 h2 h3; rw [hold_t2 hf] at h1; rw [hold_f1 hf] at h3; rw [hR, cntErr, if_neg (by omega), if_pos (by omega)]
  case i0 =>
    intro h1 h2 h3; rw [hold_t2 hf] at h1; rw [hold_t1 hf] at h3
    exact ⟨0, rfl, by omega, by rw [cntErr, if_neg (by omega), if_neg (by omega)]; rfl, by omega, by omega, by omega, by omega⟩
  all_goals (intro x0_0 b x hI0)
  all_goals (obtain ⟨r, hx, hr, hc, hb, hb2, hm1, hm2⟩ := hI0; subst hx; (try simp only [Int.toNat_natCast] at *))
  case g48 =>
    intro h1 h2 h3 h
    rw [drop_end h] at hc
    rw [hR, ← hc]; rfl
  all_goals (try (intro x1_0 y hI1; obtain ⟨q, hy, hq1, hq2, hu⟩ := hI1; subst hy; (try simp only [Int.toNat_natCast] at *)))
  all_goals (try (intro x2_0 s z hI2; obtain ⟨i, hz, hi, hw, hs1, hs2⟩ := hI2; subst hz; (try simp only [Int.toNat_natCast] at *)))
  all_goals (intro h1 h2 h3 h4; (try simp only [hold_t2 hf, hold_t1 hf] at h1 h2 h3))
  all_goals (try omega)
  all_goals (try (rw [hp]; trivial))
  all_goals (intros; (try simp only [hold_t1 hf, hold_f1 hf, hq, hg, int_i, gt_lR, gt_uB, gt_uT, gt_wI] at *))
  all_goals (try omega)
  all_goals (try (rw [hp]; trivial))
  case g10 =>
    rename_i c
    have hL : layErr a2 b (lR (a1.getD r [])) = 3 := by rw [layErr, if_neg (by omega)]
    rw [hR, ← hc, chk_err (by omega) hL (by omega)]
  case i1 => rename_i c; exact ⟨0, rfl, by omega, by simp only [Int.toNat_natCast]; exact ⟨by omega, by omega⟩, rfl⟩
  case g16 =>
    rename_i c1 c2 c3
    have hU := units_err (q := q) (e := 13) (m := a2) (b := b) (l := lR (a1.getD r [])) (by omega) (by rw [unitErr, if_pos c2]) (by omega)
    rw [hR, ← hc, chk_err (by omega) (lay_units hq2 (hu.symm.trans hU)) (by omega)]
  case g20 =>
    rename_i c1 c2 c3 c4
    have hU := units_err (q := q) (e := 3) (m := a2) (b := b) (l := lR (a1.getD r [])) (by omega) (by rw [unitErr, if_neg (by omega), if_pos c4]) (by omega)
    rw [hR, ← hc, chk_err (by omega) (lay_units hq2 (hu.symm.trans hU)) (by omega)]
  case g24 =>
    rename_i c1 c2 c3 c4 c5
    have hU := units_err (q := q) (e := 14) (m := a2) (b := b) (l := lR (a1.getD r [])) (by omega) (unit14 c2 c4 (.inl c5)) (by omega)
    rw [hR, ← hc, chk_err (by omega) (lay_units hq2 (hu.symm.trans hU)) (by omega)]
  case i2 =>
    rename_i c1 c2 c3 c4 c5
    have := abs_bd c5
    exact ⟨0, rfl, by omega, by simp only [Int.toNat_natCast]; rfl, by omega, by omega⟩
  case g32 =>
    rename_i c1 c2 c3 c4 c5 c6 c7
    have hW := wsum_no (m := a2) (s := s) (q := i) (l := lR ((lR (a1.getD r [])).getD q [])) (by omega) (by assumption)
    have hU := units_err (q := q) (e := 14) (m := a2) (b := b) (l := lR (a1.getD r [])) (by omega) (unit14 (by assumption) (by assumption) (.inr (.inl (hw.symm.trans hW)))) (by omega)
    rw [hR, ← hc, chk_err (by omega) (lay_units hq2 (hu.symm.trans hU)) (by omega)]
  case g36 => rename_i c1 c2 c3 c4 c5 c6 c7; have := abs_bd c7; have := mul_bd' this.1 this.2 (b := a2) (by omega) (by omega); omega
  case g37 => rename_i c1 c2 c3 c4 c5 c6 c7; have := abs_bd c7; have := mul_bd' this.1 this.2 (b := a2) (by omega) (by omega); omega
  case n39 =>
    rename_i c1 c2 c3 c4 c5 c6 c7
    have h0 := abs_bd c7
    have h0 := mul_bd' h0.1 h0.2 (b := a2) (by omega) (by omega)
    rw [wsum_ok (by omega) c7] at hw
    exact ⟨⟨i + 1, rfl, by simp only [Int.toNat_natCast]; omega, by simp only [Int.toNat_natCast]; exact hw, by omega, by omega⟩, by omega⟩
  case g40 =>
    rename_i c1 c2 c3 c4 c5 c6 c7
    have hU := units_err (q := q) (e := 14) (m := a2) (b := b) (l := lR (a1.getD r [])) (by omega) (unit14 (by assumption) (by assumption) (.inr (.inr ⟨s, by rw [← hw, drop_end (by assumption)]; rfl, by assumption⟩))) (by omega)
    rw [hR, ← hc, chk_err (by omega) (lay_units hq2 (hu.symm.trans hU)) (by omega)]
  case n44 =>
    rename_i c1 c2 c3 c4 c5 c6 c7
    have hU := units_ok (q := q) (m := a2) (b := b) (l := lR (a1.getD r [])) (by omega) (unit0 (by assumption) (by assumption) (by assumption) (by rw [← hw, drop_end (by assumption)]; rfl) (by assumption))
    exact ⟨⟨q + 1, rfl, by simp only [Int.toNat_natCast]; omega, by simpa only [Int.toNat_natCast] using hq2, by simp only [Int.toNat_natCast]; rw [← hU]; exact hu⟩, by omega⟩
  case n47 =>
    rename_i c1 c2
    have hL := lay_units (e := 0) hq2 (hu.symm.trans (by rw [drop_end (by assumption)] <;> rfl))
    rw [chk_ok (by omega) hL] at hc
    exact ⟨⟨r + 1, rfl, by omega, hc, by omega, by omega, by omega, by omega⟩, by omega⟩
theorem law82 {a0 : Int} {a1 : Rows} {a2 : Int} {R : Nat → Nat → D} (hR : R 0 0 = .i (cntErr a0 a1 a2)) :
    V82 a0 a1 a2 R (fun _ b x => cI0 a0 a1 a2 b x) (fun _ _ x => (a1.length - x).toNat) (fun _ b x _ y => cI1 a1 a2 b x y) (fun _ _ x _ y => ((lR (a1.getD x.toNat [])).length - y).toNat)
      (fun _ _ x _ y _ s z => cI2 a1 a2 x y s z) (fun _ _ x _ y _ _ z => ((lR ((lR (a1.getD x.toNat [])).getD y.toNat [])).length - z).toNat) := by
  constructor
  case i0 =>
    intros
    exact ⟨0, rfl, by omega, by rw [cntErr, if_neg (by omega), if_neg (by omega)]; rfl, by omega, by omega, by omega, by omega⟩
  all_goals (try (intro x0_0 b x hI0; obtain ⟨r, hx, hr, hc, hb, hb2, hm1, hm2⟩ := hI0; subst hx; (try simp only [Int.toNat_natCast] at *)))
  all_goals (try (intro x1_0 y hI1; obtain ⟨q, hy, hq1, hq2, hu⟩ := hI1; subst hy; (try simp only [Int.toNat_natCast] at *)))
  all_goals (try (intro x2_0 s z hI2; obtain ⟨i, hz, hi, hw, hs1, hs2⟩ := hI2; subst hz; (try simp only [Int.toNat_natCast] at *)))
  all_goals (intros; (try simp only [gt_lR, gt_uB, gt_uT, gt_wI] at *))
  all_goals first
    | omega
    | (rw [hR, cntErr, if_pos (by omega)]; done)
    | (rw [hR, cntErr, if_neg (by omega), if_pos (by omega)]; done)
    | skip
  all_goals first
    | (have hL : layErr a2 b (lR (a1.getD r [])) = 3 := by rw [layErr, if_neg (by omega)]
       rw [hR, ← hc, chk_err (by omega) hL (by omega)]; done)
    | (have hU := units_err (q := q) (m := a2) (b := b) (l := lR (a1.getD r [])) (e := 13) (by omega) (by rw [unitErr, if_pos (by omega)]) (by omega)
       rw [hR, ← hc, chk_err (by omega) (lay_units hq2 (hu.symm.trans hU)) (by omega)]; done)
    | (have hU := units_err (q := q) (m := a2) (b := b) (l := lR (a1.getD r [])) (e := 3) (by omega) (by rw [unitErr, if_neg (by omega), if_pos (by omega)]) (by omega)
       rw [hR, ← hc, chk_err (by omega) (lay_units hq2 (hu.symm.trans hU)) (by omega)]; done)
    | (have hU := units_err (q := q) (m := a2) (b := b) (l := lR (a1.getD r [])) (e := 14) (by omega) (unit14 (by omega) (by omega) (.inl (by omega))) (by omega)
       rw [hR, ← hc, chk_err (by omega) (lay_units hq2 (hu.symm.trans hU)) (by omega)]; done)
    | (have hW := wsum_no (m := a2) (s := s) (q := i) (l := lR ((lR (a1.getD r [])).getD q [])) (by omega) (by omega)
       have hU := units_err (q := q) (m := a2) (b := b) (l := lR (a1.getD r [])) (e := 14) (by omega) (unit14 (by omega) (by omega) (.inr (.inl (hw.symm.trans hW)))) (by omega)
       rw [hR, ← hc, chk_err (by omega) (lay_units hq2 (hu.symm.trans hU)) (by omega)]; done)
    | (have hU := units_err (q := q) (m := a2) (b := b) (l := lR (a1.getD r [])) (e := 14) (by omega) (unit14 (by omega) (by omega) (.inr (.inr ⟨s, by rw [← hw, drop_end (by omega)]; rfl, by omega⟩))) (by omega)
       rw [hR, ← hc, chk_err (by omega) (lay_units hq2 (hu.symm.trans hU)) (by omega)]; done)
    | (have h0 := abs_bd (x := wI ((lR ((lR (a1.getD r [])).getD q [])).getD i [])) (by omega)
       have h0 := mul_bd' h0.1 h0.2 (b := a2) (by omega) (by omega)
       omega)
    | skip
  case i1 => exact ⟨0, rfl, by omega, by simp only [Int.toNat_natCast]; exact ⟨by omega, by omega⟩, rfl⟩
  case i2 =>
    have := abs_bd (x := uB ((lR (a1.getD r [])).getD q [])) (by omega)
    exact ⟨0, rfl, by omega, by simp only [Int.toNat_natCast]; rfl, by omega, by omega⟩
  case n30 =>
    have h1 : -32000 ≤ wI ((lR ((lR (a1.getD r [])).getD q [])).getD i []) ∧ wI ((lR ((lR (a1.getD r [])).getD q [])).getD i []) ≤ 32000 := by omega
    have h0 := abs_bd h1
    have h0 := mul_bd' h0.1 h0.2 (b := a2) (by omega) (by omega)
    rw [wsum_ok (by omega) h1] at hw
    exact ⟨⟨i + 1, rfl, by simp only [Int.toNat_natCast]; omega, by simp only [Int.toNat_natCast]; exact hw, by omega, by omega⟩, by omega⟩
  case n34 =>
    have hU := units_ok (q := q) (m := a2) (b := b) (l := lR (a1.getD r [])) (by omega) (unit0 (by omega) (by omega) (by omega) (by rw [← hw, drop_end (by omega)]; rfl) (by omega))
    exact ⟨⟨q + 1, rfl, by simp only [Int.toNat_natCast]; omega, by simpa only [Int.toNat_natCast] using hq2, by simp only [Int.toNat_natCast]; rw [← hU]; exact hu⟩, by omega⟩
  case n40 =>
    have hL := lay_units (e := 0) hq2 (hu.symm.trans (by rw [drop_end (by omega)] <;> rfl))
    rw [chk_ok (by omega) hL] at hc
    exact ⟨⟨r + 1, rfl, by omega, hc, by omega, by omega, by omega, by omega⟩, by omega⟩
  case g42 =>
    rw [drop_end (by omega)] at hc
    rw [hR, ← hc]; rfl
end HX

namespace HX
open Go Go.Proofs CX

def okX (m : Int) (x : Rows) : Bool := x.all fun r => decide (0 ≤ wI r) && decide (wI r ≤ m)
def levVal (m : Int) (x : Rows) (u : List D) : Int := mnI m (Int.tdiv (mxI 0 (uB u + dot (lR u) x 0)) (uT u))
def levRow (m : Int) (x : Rows) : Rows → Rows
  | [] => []
  | u :: r => [.i (levVal m x u)] :: levRow m x r
def lev (m : Int) : Rows → Rows → Rows
  | [], x => x
  | row :: r, x => lev m r (levRow m x (lR row))
def levL (l : Rows) (m : Int) (x : Rows) : Rows := if cntErr ((x.length : Nat) : Int) l m = 0 then (if okX m x = true then lev m l x else []) else []
def levE (l : Rows) (m : Int) (x : Rows) : Int := if cntErr ((x.length : Nat) : Int) l m = 0 then (if okX m x = true then 0 else 3) else cntErr ((x.length : Nat) : Int) l m

theorem levRow_len (m : Int) (x : Rows) : ∀ l : Rows, (levRow m x l).length = l.length
  | [] => rfl
  | u :: r => by simp [levRow, levRow_len m x r]

theorem wsum_all {m : Int} : ∀ {l : Rows} {s t : Int}, wsum m l s = some t → ∀ r ∈ l, -32000 ≤ wI r ∧ wI r ≤ 32000
  | [], _, _, _, r, hr => by cases hr
  | y :: l, s, t, h, r, hr => by
    unfold wsum at h
    split at h
    · rename_i hy
      rcases List.mem_cons.1 hr with rfl | hr
      · exact hy
      · exact wsum_all h r hr
    · cases h
structure UOk (b : Int) (u : List D) : Prop where
  len : (((lR u).length : Nat) : Int) = b
  t1 : 1 ≤ uT u
  t2 : uT u ≤ 32000
  b1 : -32000 ≤ uB u
  b2 : uB u ≤ 32000
  w : ∀ r ∈ lR u, -32000 ≤ wI r ∧ wI r ≤ 32000
theorem unit_facts {m b : Int} {u : List D} (h : unitErr m b u = 0) : UOk b u := by
  unfold unitErr at h
  split at h
  · omega
  · split at h
    · omega
    · split at h
      · omega
      · rename_i h1 h2 h3
        split at h
        · omega
        · rename_i s hs
          exact ⟨by omega, by omega, by omega, by omega, by omega, wsum_all hs⟩
theorem units_facts {m b : Int} : ∀ {l : Rows}, unitsErr m b l = 0 → ∀ q, q < l.length → UOk b (l.getD q [])
  | [], _, q, hq => by simp at hq
  | u :: r, h, q, hq => by
    unfold unitsErr at h
    split at h
    · rename_i hu
      cases q with
      | zero => exact unit_facts hu
      | succ q => exact units_facts h q (by simpa using hq)
    · rename_i hu; exact absurd h hu
theorem chk_facts {m b : Int} {l : Rows} {r : Nat} (hr : r < l.length) (h : chkU m b (l.drop r) = 0) :
    chkU m (((lR (l.getD r [])).length : Nat) : Int) (l.drop (r + 1)) = 0 ∧ (1 ≤ (lR (l.getD r [])).length ∧ (lR (l.getD r [])).length ≤ 30) ∧ ∀ q, q < (lR (l.getD r [])).length → UOk b ((lR (l.getD r [])).getD q []) := by
  rw [drop_row hr] at h
  simp only [chkU] at h
  split at h
  · rename_i hL
    unfold layErr at hL
    split at hL
    · rename_i h2; exact ⟨h, h2, units_facts hL⟩
    · omega
  · rename_i hL; exact absurd h hL

theorem cnt_ok {a m : Int} {l : Rows} (h : cntErr a l m = 0) : (1 ≤ a ∧ a ≤ 30 ∧ 1 ≤ m ∧ m ≤ 64) ∧ (1 ≤ l.length ∧ l.length ≤ 8) ∧ chkU m a l = 0 := by
  unfold cntErr at h
  split at h
  · omega
  · split at h
    · omega
    · exact ⟨by omega, by omega, h⟩

theorem dot_bd : ∀ (w x : Rows) (s : Int), (∀ r ∈ w, -32000 ≤ wI r ∧ wI r ≤ 32000) → (∀ r ∈ x, 0 ≤ wI r ∧ wI r ≤ 64) → s - 2048000 * (x.length : Int) ≤ dot w x s ∧ dot w x s ≤ s + 2048000 * (x.length : Int)
  | [], x, s, _, _ => by cases x <;> (simp only [dot]; omega)
  | _ :: _, [], s, _, _ => by simp only [dot]; omega
  | r :: w, y :: x, s, hw, hx => by
    have h1 := hw r (.head _)
    have h2 := hx y (.head _)
    have := mul_bd h1.1 h1.2 h2.1 h2.2
    have ih := dot_bd w x (s + wI r * wI y) (fun r hr => hw r (.tail _ hr)) (fun r hr => hx r (.tail _ hr))
    simp only [dot, List.length_cons]
    omega
theorem dot_add : ∀ (w x : Rows) (s : Int), dot w x s = s + dot w x 0
  | [], x, s => by cases x <;> simp [dot]
  | _ :: _, [], s => by simp [dot]
  | r :: w, y :: x, s => by
    simp only [dot]
    rw [dot_add w x (s + wI r * wI y), dot_add w x (0 + wI r * wI y)]
    omega
theorem tdiv_bd {n t B : Int} (h1 : 0 ≤ n) (h2 : n ≤ B) (h3 : 1 ≤ t) : 0 ≤ Int.tdiv n t ∧ Int.tdiv n t ≤ B := by
  have e := Int.tdiv_nonneg h1 (by omega : 0 ≤ t)
  have f := Int.tdiv_le_self t h1
  omega
theorem levVal_bd {m b : Int} (hm : 0 ≤ m) {x : Rows} {u : List D} (hu : UOk b u) : 0 ≤ levVal m x u ∧ levVal m x u ≤ m := by
  unfold levVal
  have h1 : 0 ≤ mxI 0 (uB u + dot (lR u) x 0) := by rw [mxI_eq]; omega
  have := (tdiv_bd (t := uT u) h1 (Int.le_refl _) hu.t1).1
  rw [mnI_eq]
  omega
theorem levRow_bd {m b : Int} (hm : 0 ≤ m) {x : Rows} : ∀ {l : Rows}, (∀ q, q < l.length → UOk b (l.getD q [])) → ∀ r ∈ levRow m x l, 0 ≤ wI r ∧ wI r ≤ m
  | [], _, r, hr => by cases hr
  | u :: l, h, r, hr => by
    rcases List.mem_cons.1 hr with rfl | hr
    · exact levVal_bd hm (h 0 (by simp))
    · exact levRow_bd hm (fun q hq => h (q + 1) (by simpa using hq)) r hr
theorem okX_iff {m : Int} {x : Rows} : okX m x = true ↔ ∀ r ∈ x, 0 ≤ wI r ∧ wI r ≤ m := by
  simp [okX, List.all_eq_true]

section
variable (a0 : Rows) (a1 : Int) (a2 : Rows)
def lI0 (x : Rows) (k : Int) : Prop := ∃ r : Nat, k = r ∧ r ≤ a0.length ∧ a0.length ≤ 8 ∧ (1 ≤ a1 ∧ a1 ≤ 64) ∧ chkU a1 ((x.length : Nat) : Int) (a0.drop r) = 0 ∧ (1 ≤ x.length ∧ x.length ≤ 30) ∧ (∀ y ∈ x, 0 ≤ wI y ∧ wI y ≤ a1) ∧ lev a1 (a0.drop r) x = lev a1 a0 a2
def lI1 (x : Rows) (k : Int) (acc : Rows) (j : Int) : Prop := ∃ q : Nat, j = q ∧ q ≤ (lR (a0.getD k.toNat [])).length ∧ acc.length = q ∧ acc ++ levRow a1 x ((lR (a0.getD k.toNat [])).drop q) = levRow a1 x (lR (a0.getD k.toNat []))
end

theorem law37 {pre : Nat → List (List D) → Prop} {fn : Nat → List (List D) → Nat → Nat → D} (hp78 : pre 78 = fun _ => True) (hf78 : ∀ a l m, fn 78 [[.i a], [.l l], [.i m]] 0 0 = .i (cntErr a l m))
    (hp79 : pre 79 = fun _ => True) (hf79 : ∀ x m, fn 79 [[.l x], [.i m]] 0 0 = .b (okX m x)) (hp80 : ∀ w x, pre 80 [[.l w], [.l x], [.nil]] = dotPre w x) (hf80 : ∀ w x, fn 80 [[.l w], [.l x], [.nil]] 0 0 = .i (dot w x 0))
    {a0 : Rows} {a1 : Int} {a2 : Rows} {R : Nat → Nat → D} (hR0 : R 0 0 = .l (levL a0 a1 a2)) (hR1 : R 1 0 = .i (levE a0 a1 a2)) :
    V37 pre fn a0 a1 a2 R (fun x k => lI0 a0 a1 a2 x k) (fun _ k => (a0.length - k).toNat) (fun x k acc j => lI1 a0 a1 x k acc j) (fun _ k _ j => ((lR (a0.getD k.toNat [])).length - j).toNat) := by
  have hbool : ∀ b : Bool, (D.b b).boo = b := fun _ => rfl
  constructor
  case g0 => rw [hp78]; trivial
  case g3 => intros; rw [hp79]; trivial
  all_goals (try (intro x k hI0; obtain ⟨r, hx, hr, hr8, hm, hc, hx1, hx2, hl⟩ := hI0; subst hx; (try simp only [Int.toNat_natCast] at *)))
  all_goals (try (intro acc j hI1; obtain ⟨q, hy, hq1, hq2, hu⟩ := hI1; subst hy; (try simp only [Int.toNat_natCast] at *)))
  all_goals (intros; (try simp only [gt_lR, gt_uB, gt_uT, gt_wI, hf78, hf79, hf80, hp80, hbool, int_i, List.length_cons, List.length_nil] at *))
  all_goals (try omega)
  case g1 => rename_i h; rw [hR0, levL, if_neg h]
  case g2 => rename_i h; rw [hR1, levE, if_neg h]
  case g4 => rename_i h1 h2; rw [hR0, levL, if_pos h1, if_neg (by rw [h2]; simp)]
  case g5 => rename_i h1 h2; rw [hR1, levE, if_pos h1, if_neg (by rw [h2]; simp)]
  case i0 =>
    rename_i h1 h2
    obtain ⟨c1, c2, c3⟩ := cnt_ok h1
    exact ⟨0, rfl, by omega, by omega, by omega, c3, by omega, okX_iff.1 h2, rfl⟩
  case i1 => exact ⟨0, rfl, by omega, rfl, rfl⟩
  all_goals (try (have hrl : r < a0.length := (by omega); have f := chk_facts hrl hc; obtain ⟨f1, f2, f3⟩ := f))
  all_goals (try omega)
  case g12 =>
    have h := f3 q (by omega)
    exact ⟨by have := h.len; omega, hx1.2, h.w, fun y hy => by have := hx2 y hy; omega⟩
  case g13 =>
    have h := f3 q (by omega)
    have h2 := dot_bd _ x 0 h.w (fun y hy => by have := hx2 y hy; omega)
    have h3 := h.b1; have h4 := h.b2
    omega
  case g14 => have := (f3 q (by omega)).t1; omega
  case g15 =>
    have h := f3 q (by omega)
    have h2 := dot_bd _ x 0 h.w (fun y hy => by have := hx2 y hy; omega)
    have h3 := h.b1; have h4 := h.b2
    have := tdiv_bd (n := mxI 0 (uB ((lR (a0.getD r [])).getD q []) + dot (lR ((lR (a0.getD r [])).getD q [])) x 0)) (B := 100000000) (by rw [mxI_eq]; omega) (by rw [mxI_eq]; omega) h.t1
    omega
  case n18 =>
    refine ⟨⟨q + 1, rfl, by simp only [Int.toNat_natCast]; omega, by simp; omega, ?_⟩, by omega⟩
    rw [drop_row (by omega)] at hu
    simp only [Int.toNat_natCast]
    rw [List.append_assoc]
    exact hu
  case n20 =>
    rw [drop_end (by omega)] at hu
    simp only [levRow, List.append_nil] at hu
    refine ⟨⟨r + 1, rfl, by omega, hr8, hm, ?_, ?_, ?_, ?_⟩, by omega⟩
    · rw [hu, levRow_len]; exact f1
    · rw [hu, levRow_len]; exact f2
    · rw [hu]; exact levRow_bd (by omega) f3
    · rw [drop_row hrl] at hl
      rw [hu]; exact hl
  case g21 =>
    rw [drop_end (by omega)] at hl
    rw [hR0, levL, if_pos (by assumption), if_pos (by assumption), ← hl]; rfl
  case g22 => rw [hR1, levE, if_pos (by assumption), if_pos (by assumption)]

theorem okX_step {m : Int} {x : Rows} {r : Nat} (hr : r < x.length) : okX m (x.drop r) = (decide (0 ≤ wI (x.getD r []) ∧ wI (x.getD r []) ≤ m) && okX m (x.drop (r + 1))) := by
  rw [drop_row hr]
  simp only [okX, List.all_cons, Bool.decide_and]
theorem okX_no {m : Int} {x : Rows} {r : Nat} (hr : r < x.length) (h : ¬ (0 ≤ wI (x.getD r []) ∧ wI (x.getD r []) ≤ m)) (ho : okX m (x.drop r) = okX m x) : okX m x = false := by
  rw [← ho, okX_step hr, decide_eq_false h]; rfl
theorem okX_next {m : Int} {x : Rows} {r : Nat} (hr : r < x.length) (h : 0 ≤ wI (x.getD r []) ∧ wI (x.getD r []) ≤ m) (ho : okX m (x.drop r) = okX m x) : okX m (x.drop (r + 1)) = okX m x := by
  rw [← ho, okX_step hr, decide_eq_true h]; rfl
theorem mnI_comm (x y : Int) : mnI x y = mnI y x := by rw [mnI_eq, mnI_eq]; omega
theorem mxI_comm (x y : Int) : mxI x y = mxI y x := by rw [mxI_eq, mxI_eq]; omega
theorem levVal_r {m : Int} {x : Rows} {u : List D} {s : Int} (h : s = dot (lR u) x (uB u)) : mnI (Int.tdiv (mxI s 0) (uT u)) m = levVal m x u := by
  rw [levVal, ← dot_add, ← h, mnI_comm, mxI_comm]

theorem law38 {pre : Nat → List (List D) → Prop} {fn : Nat → List (List D) → Nat → Nat → D} (hp82 : pre 82 = fun _ => True) (hf82 : ∀ a l m, fn 82 [[.i a], [.l l], [.i m]] 0 0 = .i (cntErr a l m))
    {a0 : Rows} {a1 : Int} {a2 : Rows} {R : Nat → Nat → D} (hR0 : R 0 0 = .l (levL a0 a1 a2)) (hR1 : R 1 0 = .i (levE a0 a1 a2)) :
    V38 pre fn a0 a1 a2 R (fun _ _ k => ∃ r : Nat, k = r ∧ r ≤ a2.length ∧ (1 ≤ a2.length ∧ a2.length ≤ 30) ∧ okX a1 (a2.drop r) = okX a1 a2) (fun _ _ k => (a2.length - k).toNat)
      (fun _ _ _ x k => lI0 a0 a1 a2 x k) (fun _ _ _ _ k => (a0.length - k).toNat) (fun _ _ _ x k acc j => lI1 a0 a1 x k acc j) (fun _ _ _ _ k _ j => ((lR (a0.getD k.toNat [])).length - j).toNat)
      (fun _ _ _ x k _ j s i => ∃ t : Nat, i = t ∧ t ≤ x.length ∧ dot ((lR ((lR (a0.getD k.toNat [])).getD j.toNat [])).drop t) (x.drop t) s = dot (lR ((lR (a0.getD k.toNat [])).getD j.toNat [])) x (uB ((lR (a0.getD k.toNat [])).getD j.toNat [])) ∧ -(32000 + 2048000 * (t : Int)) ≤ s ∧ s ≤ 32000 + 2048000 * (t : Int))
      (fun _ _ _ x _ _ _ _ i => (x.length - i).toNat) := by
  constructor
  case g0 => rw [hp82]; trivial
  all_goals (try (intro e0 e1 k0 hI0; obtain ⟨r0, hx0, hr0, hl2, ho⟩ := hI0; subst hx0; (try simp only [Int.toNat_natCast] at *)))
  all_goals (try (intro x k hI1; obtain ⟨r, hx, hr, hr8, hm, hc, hx1, hx2, hl⟩ := hI1; subst hx; (try simp only [Int.toNat_natCast] at *)))
  all_goals (try (intro acc j hI2; obtain ⟨q, hy, hq1, hq2, hu⟩ := hI2; subst hy; (try simp only [Int.toNat_natCast] at *)))
  all_goals (try (intro s i hI3; obtain ⟨t, hz, ht, hd, hs1, hs2⟩ := hI3; subst hz; (try simp only [Int.toNat_natCast] at *)))
  all_goals (intros; (try simp only [gt_lR, gt_uB, gt_uT, gt_wI, hf82, int_i, List.length_cons, List.length_nil] at *))
  all_goals (try omega)
  case g1 => rename_i h; rw [hR0, levL, if_neg h]
  case g2 => rename_i h; rw [hR1, levE, if_neg h]
  case i0 => rename_i h; have := cnt_ok h; exact ⟨0, rfl, by omega, by omega, rfl⟩
  case g6 => rw [hR0, levL, if_pos (by assumption), if_neg (by rw [okX_no (by omega) (by omega) ho]; simp)]
  case g7 => rw [hR1, levE, if_pos (by assumption), if_neg (by rw [okX_no (by omega) (by omega) ho]; simp)]
  case g10 => rw [hR0, levL, if_pos (by assumption), if_neg (by rw [okX_no (by omega) (by omega) ho]; simp)]
  case g11 => rw [hR1, levE, if_pos (by assumption), if_neg (by rw [okX_no (by omega) (by omega) ho]; simp)]
  case n9 => exact ⟨⟨r0 + 1, rfl, by omega, hl2, okX_next (by omega) (by omega) ho⟩, by omega⟩
  case i1 =>
    rename_i h1 h2
    obtain ⟨c1, c2, c3⟩ := cnt_ok (by assumption)
    rw [drop_end (by omega)] at ho
    exact ⟨0, rfl, by omega, by omega, by omega, c3, by omega, okX_iff.1 (ho.symm.trans rfl), rfl⟩
  all_goals (try (have hokx : okX a1 a2 = true := (by rw [← ho, drop_end (by omega)] <;> rfl)))
  case i2 => exact ⟨0, rfl, by omega, rfl, rfl⟩
  all_goals (try (have hrl : r < a0.length := (by omega); have f := chk_facts hrl hc; obtain ⟨f1, f2, f3⟩ := f))
  all_goals (try omega)
  all_goals (try (have hql : q < (lR (a0.getD r [])).length := (by omega); have h := f3 q hql; have hlen := h.len))
  all_goals (try omega)
  case i3 => have h3 := h.b1; have h4 := h.b2; exact ⟨0, rfl, by omega, by (try simp only [Int.toNat_natCast]); rfl, by omega, by omega⟩
  all_goals (try (have htl : t < x.length := (by omega); have g1 := h.w _ (row_mem (q := t) (by omega)); have g2 := hx2 _ (row_mem htl); have g3 := mul_bd g1.1 g1.2 g2.1 (by omega)))
  all_goals (try omega)
  case n32 =>
    refine ⟨⟨t + 1, rfl, by omega, ?_, by omega, by omega⟩, by omega⟩
    rw [drop_row (by omega), drop_row (l := x) htl] at hd
    (try simp only [Int.toNat_natCast])
    exact hd
  case g37 => have := h.t1; omega
  case g38 =>
    have := tdiv_bd (n := mxI s 0) (B := 100000000) (by rw [mxI_eq]; omega) (by rw [mxI_eq]; omega) h.t1
    omega
  case n41 =>
    refine ⟨⟨q + 1, rfl, by (try simp only [Int.toNat_natCast]); omega, by simp; omega, ?_⟩, by omega⟩
    rw [drop_end (l := x) (by omega)] at hd
    have hv := levVal_r (m := a1) (x := x) (u := (lR (a0.getD r [])).getD q []) (s := s) (by rw [← hd]; cases List.drop t (lR ((lR (a0.getD r [])).getD q [])) <;> rfl)
    rw [drop_row (by omega)] at hu
    (try simp only [Int.toNat_natCast])
    rw [List.append_assoc, hv]
    exact hu
  case n43 =>
    rw [drop_end (by omega)] at hu
    simp only [levRow, List.append_nil] at hu
    refine ⟨⟨r + 1, rfl, by omega, hr8, hm, ?_, ?_, ?_, ?_⟩, by omega⟩
    · rw [hu, levRow_len]; exact f1
    · rw [hu, levRow_len]; exact f2
    · rw [hu]; exact levRow_bd (by omega) f3
    · rw [drop_row hrl] at hl
      rw [hu]; exact hl
  case g44 =>
    rw [drop_end (by omega)] at hl
    rw [hR0, levL, if_pos (by assumption), if_pos hokx, ← hl]; rfl
  case g45 => rw [hR1, levE, if_pos (by assumption), if_pos hokx]
end HX

namespace HX
open Go Go.Proofs CX

theorem rows_l (x : Rows) : (D.l x).rows = x := rfl
def r85 : List (List D) → Nat → Nat → D
  | [[.i t]], _, j => [D.i 0, .i 0, .i 0, .i t, .i 1, .i 0, .i (-1048576), .i 0].getD j .nil
  | _, _, _ => .nil
def r75 : List (List D) → Nat → Nat → D
  | [[_, _, .i n, _, _], [.i f], [.i w]], _, j => [D.i f, .i n, .i w, .i 1].getD j .nil
  | _, _, _ => .nil

def neu (u : List D) : List D := [.i 0, .i 0, .i 0, .i (uT u), .i 1, .i 0, .i (-1048576), .i 0]
def quad (a0 k num : Int) (u : List D) : Rows := [[.i (-1 - a0), .i num, .i (-32768), .i 1], [.i (-2 - a0 - 2 * k), .i num, .i 32768, .i 1], [.i (-2 - a0 - 2 * k), .i num, .i (uB u), .i 1], [.i (-2 - a0 - 2 * k - 1), .i num, .i (-32768), .i 1]]
def uNeu (l : Rows) : Rows := l.map neu
def uSyn (a0 k before step : Int) : Rows → Int → Rows
  | [], _ => []
  | u :: r, num => joinsL num before step (lR u) 0 ++ quad a0 k num u ++ uSyn a0 k before step r (num + 1)
def frN : Rows → Rows
  | [] => []
  | row :: r => uNeu (lR row) ++ frN r
def frS (a0 : Int) : Rows → Int → Int → Int → Int → Rows
  | [], _, _, _, _ => []
  | row :: r, k, num, before, step => uSyn a0 k before step (lR row) num ++ frS a0 r (k + 1) (num + (((lR row).length : Nat) : Int)) num 1

def frmN (a0 : Int) (l : Rows) (m : Int) : Rows := if cntErr a0 l m = 0 then frN l else []
def frmI (a0 : Int) (l : Rows) (m : Int) : Int := if cntErr a0 l m = 0 then a0 + 1 + 2 * ((l.length : Nat) : Int) else 0
def frmS (a0 : Int) (l : Rows) (m : Int) : Rows := if cntErr a0 l m = 0 then frS a0 l 0 0 (-1) (-1) else []

section
variable (a0 : Int) (a1 : Rows) (a2 : Int)
structure fI (num before step k : Int) (N : Rows) (inp : Int) (S : Rows) (r : Nat) : Prop where
  pk : k = r
  pr : r ≤ a1.length
  pr8 : a1.length ≤ 8
  pa : 1 ≤ a0 ∧ a0 ≤ 30 ∧ 1 ≤ a2 ∧ a2 ≤ 64
  pc : ∃ b, chkU a2 b (a1.drop r) = 0 ∧ 1 ≤ b ∧ b ≤ 30
  pn : 0 ≤ num ∧ num ≤ 30 * (r : Int)
  pbs : before = -1 ∧ step = -1 ∨ (0 ≤ before ∧ before ≤ 300) ∧ step = 1
  pnl : ((N.length : Nat) : Int) = num
  psl : ((S.length : Nat) : Int) ≤ 34 * num
  pi : inp = a0 + 1 + 2 * ((a1.length : Nat) : Int)
  pN : N ++ frN (a1.drop r) = frN a1
  pS : S ++ frS a0 (a1.drop r) r num before step = frS a0 a1 0 0 (-1) (-1)
structure fJ (num0 before step k : Int) (N0 : Rows) (S0 : Rows) (units : Rows) (num j : Int) (N : Rows) (S : Rows) (q : Nat) : Prop where
  pj : j = q
  pq : q ≤ units.length
  pn : num = num0 + q
  pnl : ((N.length : Nat) : Int) = ((N0.length : Nat) : Int) + q
  psl : ((S.length : Nat) : Int) ≤ ((S0.length : Nat) : Int) + 34 * q
  pN : N ++ uNeu (units.drop q) = N0 ++ uNeu units
  pS : S ++ uSyn a0 k before step (units.drop q) num = S0 ++ uSyn a0 k before step units num0
end
theorem fI.init {a0 a2 : Int} {a1 : Rows} (h : cntErr a0 a1 a2 = 0) : fI a0 a1 a2 0 (-1) (-1) 0 [] (a0 + 1 + 2 * ((a1.length : Nat) : Int)) [] 0 := by
  obtain ⟨c1, c2, c3⟩ := cnt_ok h
  exact ⟨rfl, by omega, by omega, by omega, ⟨a0, c3, by omega, by omega⟩, by omega, by omega, by simp, by simp, rfl, rfl, rfl⟩
theorem fI.facts {a0 a2 : Int} {a1 : Rows} {num before step k : Int} {N : Rows} {inp : Int} {S : Rows} {r : Nat} (h : fI a0 a1 a2 num before step k N inp S r) (hr : r < a1.length) :
    (1 ≤ (lR (a1.getD r [])).length ∧ (lR (a1.getD r [])).length ≤ 30) ∧ (∀ q, q < (lR (a1.getD r [])).length → (lR ((lR (a1.getD r [])).getD q [])).length ≤ 30) ∧ chkU a2 (((lR (a1.getD r [])).length : Nat) : Int) (a1.drop (r + 1)) = 0 := by
  obtain ⟨b, hc, h1, h2⟩ := h.pc
  obtain ⟨f1, f2, f3⟩ := chk_facts hr hc
  exact ⟨f2, fun q hq => by have := (f3 q hq).len; omega, f1⟩
theorem fI.next {a0 a2 : Int} {a1 : Rows} {num0 before step k : Int} {N0 : Rows} {inp : Int} {S0 : Rows} {r : Nat} (h : fI a0 a1 a2 num0 before step k N0 inp S0 r) (hr : r < a1.length)
    {num j : Int} {N S : Rows} {q : Nat} (g : fJ a0 num0 before step r N0 S0 (lR (a1.getD r [])) num j N S q) (hq : ¬ (q : Int) < (((lR (a1.getD r [])).length : Nat) : Int)) : fI a0 a1 a2 num num0 1 (k + 1) N inp S (r + 1) := by
  obtain ⟨f1, f2, f3⟩ := h.facts hr
  have hk := h.pk; have hn := h.pn; have hg := g.pn; have hq1 := g.pq; have h8 := h.pr8; have e1 := h.pnl; have e2 := h.psl; have e3 := g.pnl; have e4 := g.psl; have eN := g.pN; have eS := g.pS
  rw [drop_end hq] at eN eS
  have eN : N = N0 ++ uNeu (lR (a1.getD r [])) := by simpa [uNeu] using eN
  have eS : S = S0 ++ uSyn a0 r before step (lR (a1.getD r [])) num0 := by simpa [uSyn] using eS
  have hN := h.pN; have hS := h.pS
  rw [drop_row hr] at hN hS
  have hql : q = (lR (a1.getD r [])).length := by omega
  refine ⟨by rw [hk]; rfl, by omega, h8, h.pa, ⟨_, f3, by omega, by omega⟩, by omega, .inr ⟨by omega, rfl⟩, by omega, by omega, h.pi, ?_, ?_⟩
  · rw [eN, List.append_assoc]; exact hN
  · rw [eS, List.append_assoc, hg, hql]; exact hS
theorem fJ.init {a0 num0 before step k : Int} {N0 S0 units : Rows} : fJ a0 num0 before step k N0 S0 units num0 0 N0 S0 0 := ⟨rfl, by omega, by simp, by simp, by simp, rfl, rfl⟩
theorem joinsL_len' (number before step : Int) (l : Rows) (i : Int) : (joinsL number before step l i).length = l.length := joinsL_len number before step l i
theorem fJ.next {a0 num0 before step k : Int} {N0 S0 units : Rows} {num j : Int} {N S : Rows} {q : Nat} (g : fJ a0 num0 before step k N0 S0 units num j N S q) (hq : q < units.length) (hw : (lR (units.getD q [])).length ≤ 30)
    {N' S' : Rows} (hN : N' = N ++ [neu (units.getD q [])]) (hS : S' = S ++ (joinsL num before step (lR (units.getD q [])) 0 ++ quad a0 k num (units.getD q []))) : fJ a0 num0 before step k N0 S0 units (num + 1) (j + 1) N' S' (q + 1) := by
  have eN := g.pN; have eS := g.pS; have hj := g.pj; have hn := g.pn; have e3 := g.pnl; have e4 := g.psl
  rw [drop_row hq] at eN eS
  refine ⟨by omega, by omega, by omega, by rw [hN]; simp; omega, ?_, ?_, ?_⟩
  · rw [hS]; simp only [List.length_append, joinsL_len, quad, List.length_cons, List.length_nil]; omega
  · rw [hN, List.append_assoc]; exact eN
  · rw [hS, ← eS]; simp only [uSyn, List.append_assoc]

def szs (l : Rows) : Rows := l.map fun row => [.i (((lR row).length : Nat) : Int)]
theorem szs_gt {l : Rows} {r : Nat} (hr : r < l.length) : wI ((szs l).getD r []) = (((lR (l.getD r [])).length : Nat) : Int) := by
  simp [szs, wI, List.getD_eq_getElem?_getD, List.getElem?_map, List.getElem?_eq_getElem hr, D.int]

theorem law39 {pre : Nat → List (List D) → Prop} {fn : Nat → List (List D) → Nat → Nat → D} (hp78 : pre 78 = fun _ => True) (hf78 : ∀ a l m, fn 78 [[.i a], [.l l], [.i m]] 0 0 = .i (cntErr a l m))
    (hp74 : ∀ k j n b s w, pre 74 [[.i k, .i j, .i n, .i b, .i s], [.l w]] = joinsPre b s w) (hf74 : ∀ k j n b s w, fn 74 [[.i k, .i j, .i n, .i b, .i s], [.l w]] 0 0 = .l (joinsL n b s w 0))
    (hp75 : pre 75 = fun _ => True) (hf75 : fn 75 = r75) (hp85 : pre 85 = fun _ => True) (hf85 : fn 85 = r85)
    {a0 : Int} {a1 : Rows} {a2 : Int} {R : Nat → Nat → D} (hR0 : R 0 0 = .l (frmN a0 a1 a2)) (hR1 : R 0 1 = .i (frmI a0 a1 a2)) (hR2 : R 0 2 = .l (frmS a0 a1 a2)) (hR3 : R 1 0 = .i (cntErr a0 a1 a2)) :
    V39 pre fn a0 a1 a2 R (fun o k => ∃ r : Nat, k = r ∧ r ≤ a1.length ∧ o.length = r ∧ o ++ szs (a1.drop r) = szs a1) (fun _ k => (a1.length - k).toNat)
      (fun _ _ num before step k N inp S => ∃ r, fI a0 a1 a2 num before step k N inp S r) (fun _ _ _ _ _ k _ _ _ => (a1.length - k).toNat)
      (fun _ _ num0 before step k N0 inp0 S0 num j N inp S => inp = inp0 ∧ ∃ q, fJ a0 num0 before step k N0 S0 (lR (a1.getD k.toNat [])) num j N S q) (fun _ _ _ _ _ k _ _ _ _ j _ _ _ => ((lR (a1.getD k.toNat [])).length - j).toNat) := by
  have hp74' := hp74
  constructor
  case g0 => rw [hp78]; trivial
  case g23 => intros; rw [hp85]; trivial
  case g31 => intros; rw [hp75]; trivial
  case g32 => intros; rw [hp75]; trivial
  case g33 => intros; rw [hp75]; trivial
  case g35 => intros; rw [hp75]; trivial
  all_goals (try (intro o k0 hI0; obtain ⟨r0, hx0, hr0, ho1, ho2⟩ := hI0; subst hx0; (try simp only [Int.toNat_natCast] at *)))
  all_goals (try (intro num before step k N inp S hI1; obtain ⟨r, hi1⟩ := hI1; have hk := hi1.pk; subst hk; (try simp only [Int.toNat_natCast] at *)))
  all_goals (try (intro num2 j N2 inp2 S2 hI2; obtain ⟨hinp, q, hj1⟩ := hI2; have hj := hj1.pj; subst hj; subst hinp; (try simp only [Int.toNat_natCast] at *)))
  all_goals (intros; (try simp only [gt_lR, gt_uB, gt_uT, gt_wI, hf78, hf74, hp74, hf75, hf85, r75, r85, int_i, rows_l, List.length_cons, List.length_nil, List.getD_cons_zero, List.getD_cons_succ, List.length_append, joinsL_len] at *))
  case g1 => rename_i h; rw [hR0, frmN, if_neg h]
  case g2 => rename_i h; rw [hR1, frmI, if_neg h]
  case g3 => rename_i h; rw [hR2, frmS, if_neg h]
  case g4 => exact hR3
  all_goals (try (have hcnt := cnt_ok ‹cntErr a0 a1 a2 = 0›; obtain ⟨c1, c2, c3⟩ := hcnt))
  all_goals (try omega)
  case i0 => exact ⟨0, rfl, by omega, rfl, rfl⟩
  case n13 =>
    refine ⟨⟨r0 + 1, rfl, by omega, by simp; omega, ?_⟩, by omega⟩
    rw [drop_row (by omega)] at ho2
    rw [List.append_assoc]; exact ho2
  case i1 => exact ⟨0, fI.init (by assumption)⟩
  all_goals (rw [drop_end (by omega)] at ho2; have ho2 : o = szs a1 := by simpa [szs] using ho2)
  all_goals (have hol : r0 = a1.length := by omega)
  all_goals (have b1 := hi1.pr; have b2 := hi1.pr8; have b3 := hi1.pa; have b4 := hi1.pn; have b5 := hi1.pbs; have b6 := hi1.pnl; have b7 := hi1.psl)
  all_goals (try omega)
  case i2 => exact ⟨trivial, 0, fJ.init⟩
  case g42 => rw [hR0, frmN, if_pos (by assumption), ← hi1.pN, drop_end (by omega)]; simp [frN]
  case g43 => rw [hR1, frmI, if_pos (by assumption), hi1.pi]
  case g44 => rw [hR2, frmS, if_pos (by assumption), ← hi1.pS, drop_end (by omega)]; simp [frS]
  case g45 => rw [hR3]; congr 1
  all_goals (have hrl : r < a1.length := by omega)
  all_goals (obtain ⟨f1, f2, f3⟩ := hi1.facts hrl; have hsz := szs_gt hrl; rw [← ho2] at hsz; have d1 := hj1.pq; have d2 := hj1.pn; have d3 := hj1.pnl; have d4 := hj1.psl)
  all_goals (try omega)
  case n41 => exact ⟨⟨r + 1, hi1.next hrl hj1 (by omega)⟩, by omega⟩
  all_goals (have hql : q < (lR (a1.getD r [])).length := by omega)
  all_goals (have f2q := f2 q hql)
  all_goals (try omega)
  case g28 => exact ⟨f2q, by omega, by omega, by omega⟩
  case n39 =>
    refine ⟨⟨trivial, q + 1, hj1.next hql f2q rfl ?_⟩, by omega⟩
    rw [List.append_assoc]
    simp only [quad]

theorem law40 {pre : Nat → List (List D) → Prop} {fn : Nat → List (List D) → Nat → Nat → D} (hp82 : pre 82 = fun _ => True) (hf82 : ∀ a l m, fn 82 [[.i a], [.l l], [.i m]] 0 0 = .i (cntErr a l m))
    {a0 : Int} {a1 : Rows} {a2 : Int} {R : Nat → Nat → D} (hR0 : R 0 0 = .l (frmN a0 a1 a2)) (hR1 : R 0 1 = .i (frmI a0 a1 a2)) (hR2 : R 0 2 = .l (frmS a0 a1 a2)) (hR3 : R 1 0 = .i (cntErr a0 a1 a2)) :
    V40 pre fn a0 a1 a2 R (fun bf first k N inp S => 0 ≤ bf ∧ bf ≤ 300 ∧ ∃ r, fI a0 a1 a2 first (if k = 0 then -1 else bf) (if k = 0 then -1 else 1) k N inp S r) (fun _ _ k _ _ _ => (a1.length - k).toNat)
      (fun bf first k N0 inp0 S0 j N inp S => inp = inp0 ∧ ∃ q, fJ a0 first (if k = 0 then -1 else bf) (if k = 0 then -1 else 1) k N0 S0 (lR (a1.getD k.toNat [])) (first + j) j N S q) (fun _ _ k _ _ _ j _ _ _ => ((lR (a1.getD k.toNat [])).length - j).toNat)
      (fun bf first k _ _ _ j N1 inp1 S1 i N inp S => inp = inp1 ∧ N = N1 ++ [neu ((lR (a1.getD k.toNat [])).getD j.toNat [])] ∧ ∃ t : Nat, i = t ∧ t ≤ (lR ((lR (a1.getD k.toNat [])).getD j.toNat [])).length ∧ S.length = S1.length + t ∧
        S ++ joinsL (first + j) (if k = 0 then -1 else bf) (if k = 0 then -1 else 1) ((lR ((lR (a1.getD k.toNat [])).getD j.toNat [])).drop t) t = S1 ++ joinsL (first + j) (if k = 0 then -1 else bf) (if k = 0 then -1 else 1) (lR ((lR (a1.getD k.toNat [])).getD j.toNat [])) 0)
      (fun _ _ k _ _ _ j _ _ _ i _ _ _ => ((lR ((lR (a1.getD k.toNat [])).getD j.toNat [])).length - i).toNat) := by
  constructor
  case g0 => rw [hp82]; trivial
  all_goals (try (intro bf first k N inp S hI1; obtain ⟨hbf1, hbf2, r, hi1⟩ := hI1; have hk := hi1.pk; subst hk; (try simp only [Int.toNat_natCast] at *)))
  all_goals (try (intro j N2 inp2 S2 hI2; obtain ⟨hinp, q, hj1⟩ := hI2; have hj := hj1.pj; subst hj; subst hinp; (try simp only [Int.toNat_natCast] at *)))
  all_goals (try (intro i N3 inp3 S3 hI3; obtain ⟨hinp, hN3, t, hi, ht, hs3, hS3⟩ := hI3; subst hi; subst hinp; (try simp only [Int.toNat_natCast] at *)))
  all_goals (intros; (try simp only [gt_lR, gt_uB, gt_uT, gt_wI, hf82, int_i, List.length_cons, List.length_nil, List.length_append] at *))
  case g1 => rename_i h; rw [hR0, frmN, if_neg h]
  case g2 => rename_i h; rw [hR1, frmI, if_neg h]
  case g3 => rename_i h; rw [hR2, frmS, if_neg h]
  case g4 => exact hR3
  all_goals (try (have hcnt := cnt_ok ‹cntErr a0 a1 a2 = 0›; obtain ⟨c1, c2, c3⟩ := hcnt))
  all_goals (try omega)
  case i0 => exact ⟨by omega, by omega, 0, by rw [if_pos trivial, if_pos trivial]; exact fI.init (by assumption)⟩
  all_goals (have b1 := hi1.pr; have b2 := hi1.pr8; have b3 := hi1.pa; have b4 := hi1.pn; have b5 := hi1.pbs; have b6 := hi1.pnl; have b7 := hi1.psl)
  all_goals (try omega)
  case i1 => exact ⟨trivial, 0, by rw [show first + 0 = first by omega]; exact fJ.init⟩
  case g53 => rw [hR0, frmN, if_pos (by assumption), ← hi1.pN, drop_end (by omega)]; simp [frN]
  case g54 => rw [hR1, frmI, if_pos (by assumption), hi1.pi]
  case g55 => rw [hR2, frmS, if_pos (by assumption), ← hi1.pS, drop_end (by omega)]; simp [frS]
  case g56 => rw [hR3]; congr 1
  all_goals (have hrl : r < a1.length := by omega)
  all_goals (obtain ⟨f1, f2, f3⟩ := hi1.facts hrl; have d1 := hj1.pq; have d2 := hj1.pn; have d3 := hj1.pnl; have d4 := hj1.psl)
  all_goals (try omega)
  case n52 =>
    have hq : q = (lR (a1.getD r [])).length := by omega
    have h := hi1.next hrl hj1 (by omega)
    refine ⟨⟨by omega, by omega, r + 1, ?_⟩, by omega⟩
    rw [if_neg (by omega), if_neg (by omega), show first + (((lR (a1.getD r [])).length : Nat) : Int) = first + (q : Int) by omega]
    exact h
  all_goals (have hql : q < (lR (a1.getD r [])).length := by omega)
  all_goals (have f2q := f2 q hql)
  all_goals (try omega)
  case i2 => exact ⟨trivial, rfl, 0, rfl, by omega, rfl, rfl⟩
  case n25 =>
    refine ⟨⟨trivial, hN3, t + 1, rfl, by omega, by simp; omega, ?_⟩, by omega⟩
    rw [drop_row (by omega)] at hS3
    rw [List.append_assoc, ← hS3]
    simp only [if_pos ‹(r : Int) = 0›, joinsL, List.cons_append, List.nil_append]
    rw [show (-1 : Int) + (t : Int) * -1 = -1 - (t : Int) by omega]; rfl
  case n31 =>
    refine ⟨⟨trivial, hN3, t + 1, rfl, by omega, by simp; omega, ?_⟩, by omega⟩
    rw [drop_row (by omega)] at hS3
    rw [List.append_assoc, ← hS3]
    simp only [if_neg ‹¬ (r : Int) = 0›, joinsL, List.cons_append, List.nil_append]
    rw [show bf + (t : Int) * 1 = bf + (t : Int) by omega]; rfl
  case n47 =>
    rw [drop_end (by omega)] at hS3
    simp only [joinsL, List.append_nil] at hS3
    have h := hj1.next hql f2q hN3 (S' := S2 ++ (joinsL (first + (q : Int)) (if (r : Int) = 0 then -1 else bf) (if (r : Int) = 0 then -1 else 1) (lR ((lR (a1.getD r [])).getD q [])) 0 ++ quad a0 r (first + (q : Int)) ((lR (a1.getD r [])).getD q []))) rfl
    refine ⟨⟨trivial, q + 1, ?_⟩, by omega⟩
    have e : first + ((q : Int) + 1) = first + (q : Int) + 1 := by omega
    rw [e, hS3]
    have e2 : (-1 : Int) - (a0 + 1 + 2 * (r : Int)) = -2 - a0 - 2 * (r : Int) := by omega
    rw [e2]
    simp only [quad, List.append_assoc, List.cons_append, List.nil_append] at h ⊢
    exact h
end HX

namespace HX
open Go Go.Proofs CX
structure V41 (pre : Nat → List (List D) → Prop) (fn : Nat → List (List D) → Nat → Nat → D) (a0 : Int) (a1 : Int) (a2 : Rows) (R : Nat → Nat → D) (I0 : Rows → Int → Prop) (m0 : Rows → Int → Nat) (I1 : Rows → Int → Rows → Int → Prop) (m1 : Rows → Int → Rows → Int → Nat) (I2 : Rows → Int → Rows → Int → Prop) (m2 : Rows → Int → Rows → Int → Nat) : Prop where
  g0 : pre 51 [[D.l [[D.i (a2.length : Int), D.i 1, D.i 30], [D.i a1, D.i 1, D.i 64], [D.i a0, D.i 1, D.i 8]]]]
  g1 : (D.boo (fn 51 [[D.l [[D.i (a2.length : Int), D.i 1, D.i 30], [D.i a1, D.i 1, D.i 64], [D.i a0, D.i 1, D.i 8]]]] 0 0) = false) → R 0 0 = D.l []
  g2 : (D.boo (fn 51 [[D.l [[D.i (a2.length : Int), D.i 1, D.i 30], [D.i a1, D.i 1, D.i 64], [D.i a0, D.i 1, D.i 8]]]] 0 0) = false) → R 1 0 = D.i 3
  g3 : (D.boo (fn 51 [[D.l [[D.i (a2.length : Int), D.i 1, D.i 30], [D.i a1, D.i 1, D.i 64], [D.i a0, D.i 1, D.i 8]]]] 0 0) = true) → pre 79 [[D.l a2], [D.i a1]]
  g4 : (D.boo (fn 51 [[D.l [[D.i (a2.length : Int), D.i 1, D.i 30], [D.i a1, D.i 1, D.i 64], [D.i a0, D.i 1, D.i 8]]]] 0 0) = true) → (D.boo (fn 79 [[D.l a2], [D.i a1]] 0 0) = false) → R 0 0 = D.l []
  g5 : (D.boo (fn 51 [[D.l [[D.i (a2.length : Int), D.i 1, D.i 30], [D.i a1, D.i 1, D.i 64], [D.i a0, D.i 1, D.i 8]]]] 0 0) = true) → (D.boo (fn 79 [[D.l a2], [D.i a1]] 0 0) = false) → R 1 0 = D.i 3
  i0 : (D.boo (fn 51 [[D.l [[D.i (a2.length : Int), D.i 1, D.i 30], [D.i a1, D.i 1, D.i 64], [D.i a0, D.i 1, D.i 8]]]] 0 0) = true) → (D.boo (fn 79 [[D.l a2], [D.i a1]] 0 0) = true) → I0 [[D.i 0, D.i (a2.length : Int)]] 1
  i1 : ∀ x0_0 x0_1, I0 x0_0 x0_1 → (D.boo (fn 51 [[D.l [[D.i (a2.length : Int), D.i 1, D.i 30], [D.i a1, D.i 1, D.i 64], [D.i a0, D.i 1, D.i 8]]]] 0 0) = true) → (D.boo (fn 79 [[D.l a2], [D.i a1]] 0 0) = true) → (x0_1 ≤ a1) → I1 x0_0 x0_1 x0_0 0
  g8 : ∀ x0_0 x0_1, I0 x0_0 x0_1 → ∀ x1_0 x1_1, I1 x0_0 x0_1 x1_0 x1_1 → (D.boo (fn 51 [[D.l [[D.i (a2.length : Int), D.i 1, D.i 30], [D.i a1, D.i 1, D.i 64], [D.i a0, D.i 1, D.i 8]]]] 0 0) = true) → (D.boo (fn 79 [[D.l a2], [D.i a1]] 0 0) = true) → (x0_1 ≤ a1) → (x1_1 < (a2.length : Int)) → 0 ≤ x1_1
  g9 : ∀ x0_0 x0_1, I0 x0_0 x0_1 → ∀ x1_0 x1_1, I1 x0_0 x0_1 x1_0 x1_1 → (D.boo (fn 51 [[D.l [[D.i (a2.length : Int), D.i 1, D.i 30], [D.i a1, D.i 1, D.i 64], [D.i a0, D.i 1, D.i 8]]]] 0 0) = true) → (D.boo (fn 79 [[D.l a2], [D.i a1]] 0 0) = true) → (x0_1 ≤ a1) → (x1_1 < (a2.length : Int)) → x1_1 < (a2.length : Int)
  g10 : ∀ x0_0 x0_1, I0 x0_0 x0_1 → ∀ x1_0 x1_1, I1 x0_0 x0_1 x1_0 x1_1 → (D.boo (fn 51 [[D.l [[D.i (a2.length : Int), D.i 1, D.i 30], [D.i a1, D.i 1, D.i 64], [D.i a0, D.i 1, D.i 8]]]] 0 0) = true) → (D.boo (fn 79 [[D.l a2], [D.i a1]] 0 0) = true) → (x0_1 ≤ a1) → (x1_1 < (a2.length : Int)) → (x0_1 ≤ (D.int (gt a2 x1_1.toNat 0))) → (x1_0.length + (List.length [[D.i x0_1, D.i x1_1]])) * 16 ≤ 4294967296 ∧ (x1_0.length + (List.length [[D.i x0_1, D.i x1_1]])) ≤ 4294967296
  g11 : ∀ x0_0 x0_1, I0 x0_0 x0_1 → ∀ x1_0 x1_1, I1 x0_0 x0_1 x1_0 x1_1 → (D.boo (fn 51 [[D.l [[D.i (a2.length : Int), D.i 1, D.i 30], [D.i a1, D.i 1, D.i 64], [D.i a0, D.i 1, D.i 8]]]] 0 0) = true) → (D.boo (fn 79 [[D.l a2], [D.i a1]] 0 0) = true) → (x0_1 ≤ a1) → (x1_1 < (a2.length : Int)) → (x0_1 ≤ (D.int (gt a2 x1_1.toNat 0))) → -9223372036854775808 ≤ (x1_1 + 1) ∧ (x1_1 + 1) ≤ 9223372036854775807
  n12 : ∀ x0_0 x0_1, I0 x0_0 x0_1 → ∀ x1_0 x1_1, I1 x0_0 x0_1 x1_0 x1_1 → (D.boo (fn 51 [[D.l [[D.i (a2.length : Int), D.i 1, D.i 30], [D.i a1, D.i 1, D.i 64], [D.i a0, D.i 1, D.i 8]]]] 0 0) = true) → (D.boo (fn 79 [[D.l a2], [D.i a1]] 0 0) = true) → (x0_1 ≤ a1) → (x1_1 < (a2.length : Int)) → (x0_1 ≤ (D.int (gt a2 x1_1.toNat 0))) → I1 x0_0 x0_1 (x1_0 ++ [[D.i x0_1, D.i x1_1]]) (x1_1 + 1) ∧ m1 x0_0 x0_1 (x1_0 ++ [[D.i x0_1, D.i x1_1]]) (x1_1 + 1) < m1 x0_0 x0_1 x1_0 x1_1
  g13 : ∀ x0_0 x0_1, I0 x0_0 x0_1 → ∀ x1_0 x1_1, I1 x0_0 x0_1 x1_0 x1_1 → (D.boo (fn 51 [[D.l [[D.i (a2.length : Int), D.i 1, D.i 30], [D.i a1, D.i 1, D.i 64], [D.i a0, D.i 1, D.i 8]]]] 0 0) = true) → (D.boo (fn 79 [[D.l a2], [D.i a1]] 0 0) = true) → (x0_1 ≤ a1) → (x1_1 < (a2.length : Int)) → (¬ x0_1 ≤ (D.int (gt a2 x1_1.toNat 0))) → -9223372036854775808 ≤ (x1_1 + 1) ∧ (x1_1 + 1) ≤ 9223372036854775807
  n14 : ∀ x0_0 x0_1, I0 x0_0 x0_1 → ∀ x1_0 x1_1, I1 x0_0 x0_1 x1_0 x1_1 → (D.boo (fn 51 [[D.l [[D.i (a2.length : Int), D.i 1, D.i 30], [D.i a1, D.i 1, D.i 64], [D.i a0, D.i 1, D.i 8]]]] 0 0) = true) → (D.boo (fn 79 [[D.l a2], [D.i a1]] 0 0) = true) → (x0_1 ≤ a1) → (x1_1 < (a2.length : Int)) → (¬ x0_1 ≤ (D.int (gt a2 x1_1.toNat 0))) → I1 x0_0 x0_1 x1_0 (x1_1 + 1) ∧ m1 x0_0 x0_1 x1_0 (x1_1 + 1) < m1 x0_0 x0_1 x1_0 x1_1
  g15 : ∀ x0_0 x0_1, I0 x0_0 x0_1 → ∀ x1_0 x1_1, I1 x0_0 x0_1 x1_0 x1_1 → (D.boo (fn 51 [[D.l [[D.i (a2.length : Int), D.i 1, D.i 30], [D.i a1, D.i 1, D.i 64], [D.i a0, D.i 1, D.i 8]]]] 0 0) = true) → (D.boo (fn 79 [[D.l a2], [D.i a1]] 0 0) = true) → (x0_1 ≤ a1) → (¬ x1_1 < (a2.length : Int)) → -9223372036854775808 ≤ (x0_1 + 1) ∧ (x0_1 + 1) ≤ 9223372036854775807
  n16 : ∀ x0_0 x0_1, I0 x0_0 x0_1 → ∀ x1_0 x1_1, I1 x0_0 x0_1 x1_0 x1_1 → (D.boo (fn 51 [[D.l [[D.i (a2.length : Int), D.i 1, D.i 30], [D.i a1, D.i 1, D.i 64], [D.i a0, D.i 1, D.i 8]]]] 0 0) = true) → (D.boo (fn 79 [[D.l a2], [D.i a1]] 0 0) = true) → (x0_1 ≤ a1) → (¬ x1_1 < (a2.length : Int)) → I0 x1_0 (x0_1 + 1) ∧ m0 x1_0 (x0_1 + 1) < m0 x0_0 x0_1
  i2 : ∀ x0_0 x0_1, I0 x0_0 x0_1 → (D.boo (fn 51 [[D.l [[D.i (a2.length : Int), D.i 1, D.i 30], [D.i a1, D.i 1, D.i 64], [D.i a0, D.i 1, D.i 8]]]] 0 0) = true) → (D.boo (fn 79 [[D.l a2], [D.i a1]] 0 0) = true) → (¬ x0_1 ≤ a1) → I2 x0_0 x0_1 x0_0 0
  g18 : ∀ x0_0 x0_1, I0 x0_0 x0_1 → ∀ x2_0 x2_1, I2 x0_0 x0_1 x2_0 x2_1 → (D.boo (fn 51 [[D.l [[D.i (a2.length : Int), D.i 1, D.i 30], [D.i a1, D.i 1, D.i 64], [D.i a0, D.i 1, D.i 8]]]] 0 0) = true) → (D.boo (fn 79 [[D.l a2], [D.i a1]] 0 0) = true) → (¬ x0_1 ≤ a1) → (x2_1 < a0) → -9223372036854775808 ≤ (x2_1 + 1) ∧ (x2_1 + 1) ≤ 9223372036854775807
  g19 : ∀ x0_0 x0_1, I0 x0_0 x0_1 → ∀ x2_0 x2_1, I2 x0_0 x0_1 x2_0 x2_1 → (D.boo (fn 51 [[D.l [[D.i (a2.length : Int), D.i 1, D.i 30], [D.i a1, D.i 1, D.i 64], [D.i a0, D.i 1, D.i 8]]]] 0 0) = true) → (D.boo (fn 79 [[D.l a2], [D.i a1]] 0 0) = true) → (¬ x0_1 ≤ a1) → (x2_1 < a0) → -9223372036854775808 ≤ (a1 + 1) ∧ (a1 + 1) ≤ 9223372036854775807
  g20 : ∀ x0_0 x0_1, I0 x0_0 x0_1 → ∀ x2_0 x2_1, I2 x0_0 x0_1 x2_0 x2_1 → (D.boo (fn 51 [[D.l [[D.i (a2.length : Int), D.i 1, D.i 30], [D.i a1, D.i 1, D.i 64], [D.i a0, D.i 1, D.i 8]]]] 0 0) = true) → (D.boo (fn 79 [[D.l a2], [D.i a1]] 0 0) = true) → (¬ x0_1 ≤ a1) → (x2_1 < a0) → -9223372036854775808 ≤ ((x2_1 + 1) * (a1 + 1)) ∧ ((x2_1 + 1) * (a1 + 1)) ≤ 9223372036854775807
  g21 : ∀ x0_0 x0_1, I0 x0_0 x0_1 → ∀ x2_0 x2_1, I2 x0_0 x0_1 x2_0 x2_1 → (D.boo (fn 51 [[D.l [[D.i (a2.length : Int), D.i 1, D.i 30], [D.i a1, D.i 1, D.i 64], [D.i a0, D.i 1, D.i 8]]]] 0 0) = true) → (D.boo (fn 79 [[D.l a2], [D.i a1]] 0 0) = true) → (¬ x0_1 ≤ a1) → (x2_1 < a0) → -9223372036854775808 ≤ ((a2.length : Int) + 1) ∧ ((a2.length : Int) + 1) ≤ 9223372036854775807
  g22 : ∀ x0_0 x0_1, I0 x0_0 x0_1 → ∀ x2_0 x2_1, I2 x0_0 x0_1 x2_0 x2_1 → (D.boo (fn 51 [[D.l [[D.i (a2.length : Int), D.i 1, D.i 30], [D.i a1, D.i 1, D.i 64], [D.i a0, D.i 1, D.i 8]]]] 0 0) = true) → (D.boo (fn 79 [[D.l a2], [D.i a1]] 0 0) = true) → (¬ x0_1 ≤ a1) → (x2_1 < a0) → -9223372036854775808 ≤ (2 * x2_1) ∧ (2 * x2_1) ≤ 9223372036854775807
  g23 : ∀ x0_0 x0_1, I0 x0_0 x0_1 → ∀ x2_0 x2_1, I2 x0_0 x0_1 x2_0 x2_1 → (D.boo (fn 51 [[D.l [[D.i (a2.length : Int), D.i 1, D.i 30], [D.i a1, D.i 1, D.i 64], [D.i a0, D.i 1, D.i 8]]]] 0 0) = true) → (D.boo (fn 79 [[D.l a2], [D.i a1]] 0 0) = true) → (¬ x0_1 ≤ a1) → (x2_1 < a0) → -9223372036854775808 ≤ (((a2.length : Int) + 1) + (2 * x2_1)) ∧ (((a2.length : Int) + 1) + (2 * x2_1)) ≤ 9223372036854775807
  g24 : ∀ x0_0 x0_1, I0 x0_0 x0_1 → ∀ x2_0 x2_1, I2 x0_0 x0_1 x2_0 x2_1 → (D.boo (fn 51 [[D.l [[D.i (a2.length : Int), D.i 1, D.i 30], [D.i a1, D.i 1, D.i 64], [D.i a0, D.i 1, D.i 8]]]] 0 0) = true) → (D.boo (fn 79 [[D.l a2], [D.i a1]] 0 0) = true) → (¬ x0_1 ≤ a1) → (x2_1 < a0) → -9223372036854775808 ≤ (((x2_1 + 1) * (a1 + 1)) + a1) ∧ (((x2_1 + 1) * (a1 + 1)) + a1) ≤ 9223372036854775807
  g25 : ∀ x0_0 x0_1, I0 x0_0 x0_1 → ∀ x2_0 x2_1, I2 x0_0 x0_1 x2_0 x2_1 → (D.boo (fn 51 [[D.l [[D.i (a2.length : Int), D.i 1, D.i 30], [D.i a1, D.i 1, D.i 64], [D.i a0, D.i 1, D.i 8]]]] 0 0) = true) → (D.boo (fn 79 [[D.l a2], [D.i a1]] 0 0) = true) → (¬ x0_1 ≤ a1) → (x2_1 < a0) → -9223372036854775808 ≤ ((a2.length : Int) + 2) ∧ ((a2.length : Int) + 2) ≤ 9223372036854775807
  g27 : ∀ x0_0 x0_1, I0 x0_0 x0_1 → ∀ x2_0 x2_1, I2 x0_0 x0_1 x2_0 x2_1 → (D.boo (fn 51 [[D.l [[D.i (a2.length : Int), D.i 1, D.i 30], [D.i a1, D.i 1, D.i 64], [D.i a0, D.i 1, D.i 8]]]] 0 0) = true) → (D.boo (fn 79 [[D.l a2], [D.i a1]] 0 0) = true) → (¬ x0_1 ≤ a1) → (x2_1 < a0) → -9223372036854775808 ≤ (((a2.length : Int) + 2) + (2 * x2_1)) ∧ (((a2.length : Int) + 2) + (2 * x2_1)) ≤ 9223372036854775807
  g28 : ∀ x0_0 x0_1, I0 x0_0 x0_1 → ∀ x2_0 x2_1, I2 x0_0 x0_1 x2_0 x2_1 → (D.boo (fn 51 [[D.l [[D.i (a2.length : Int), D.i 1, D.i 30], [D.i a1, D.i 1, D.i 64], [D.i a0, D.i 1, D.i 8]]]] 0 0) = true) → (D.boo (fn 79 [[D.l a2], [D.i a1]] 0 0) = true) → (¬ x0_1 ≤ a1) → (x2_1 < a0) → (x2_0.length + (List.length [[D.i ((x2_1 + 1) * (a1 + 1)), D.i (((a2.length : Int) + 1) + (2 * x2_1))], [D.i (((x2_1 + 1) * (a1 + 1)) + a1), D.i (((a2.length : Int) + 2) + (2 * x2_1))]])) * 16 ≤ 4294967296 ∧ (x2_0.length + (List.length [[D.i ((x2_1 + 1) * (a1 + 1)), D.i (((a2.length : Int) + 1) + (2 * x2_1))], [D.i (((x2_1 + 1) * (a1 + 1)) + a1), D.i (((a2.length : Int) + 2) + (2 * x2_1))]])) ≤ 4294967296
  n30 : ∀ x0_0 x0_1, I0 x0_0 x0_1 → ∀ x2_0 x2_1, I2 x0_0 x0_1 x2_0 x2_1 → (D.boo (fn 51 [[D.l [[D.i (a2.length : Int), D.i 1, D.i 30], [D.i a1, D.i 1, D.i 64], [D.i a0, D.i 1, D.i 8]]]] 0 0) = true) → (D.boo (fn 79 [[D.l a2], [D.i a1]] 0 0) = true) → (¬ x0_1 ≤ a1) → (x2_1 < a0) → I2 x0_0 x0_1 (x2_0 ++ [[D.i ((x2_1 + 1) * (a1 + 1)), D.i (((a2.length : Int) + 1) + (2 * x2_1))], [D.i (((x2_1 + 1) * (a1 + 1)) + a1), D.i (((a2.length : Int) + 2) + (2 * x2_1))]]) (x2_1 + 1) ∧ m2 x0_0 x0_1 (x2_0 ++ [[D.i ((x2_1 + 1) * (a1 + 1)), D.i (((a2.length : Int) + 1) + (2 * x2_1))], [D.i (((x2_1 + 1) * (a1 + 1)) + a1), D.i (((a2.length : Int) + 2) + (2 * x2_1))]]) (x2_1 + 1) < m2 x0_0 x0_1 x2_0 x2_1
  g31 : ∀ x0_0 x0_1, I0 x0_0 x0_1 → ∀ x2_0 x2_1, I2 x0_0 x0_1 x2_0 x2_1 → (D.boo (fn 51 [[D.l [[D.i (a2.length : Int), D.i 1, D.i 30], [D.i a1, D.i 1, D.i 64], [D.i a0, D.i 1, D.i 8]]]] 0 0) = true) → (D.boo (fn 79 [[D.l a2], [D.i a1]] 0 0) = true) → (¬ x0_1 ≤ a1) → (¬ x2_1 < a0) → R 0 0 = D.l x2_0
  g32 : ∀ x0_0 x0_1, I0 x0_0 x0_1 → ∀ x2_0 x2_1, I2 x0_0 x0_1 x2_0 x2_1 → (D.boo (fn 51 [[D.l [[D.i (a2.length : Int), D.i 1, D.i 30], [D.i a1, D.i 1, D.i 64], [D.i a0, D.i 1, D.i 8]]]] 0 0) = true) → (D.boo (fn 79 [[D.l a2], [D.i a1]] 0 0) = true) → (¬ x0_1 ≤ a1) → (¬ x2_1 < a0) → R 1 0 = D.i 0
end HX

namespace HX
open Go Go.Proofs CX
structure V42 (a0 : Int) (a1 : Int) (a2 : Rows) (R : Nat → Nat → D) (I0 : Rows → Int → Int → Prop) (m0 : Rows → Int → Int → Nat) (I1 : Rows → Int → Int → Rows → Int → Prop) (m1 : Rows → Int → Int → Rows → Int → Nat) (I2 : Rows → Int → Int → Rows → Int → Rows → Int → Prop) (m2 : Rows → Int → Int → Rows → Int → Rows → Int → Nat) (I3 : Rows → Int → Int → Rows → Int → Rows → Int → Rows → Int → Prop) (m3 : Rows → Int → Int → Rows → Int → Rows → Int → Rows → Int → Nat) (I4 : Rows → Int → Int → Rows → Int → Rows → Int → Rows → Int → Prop) (m4 : Rows → Int → Int → Rows → Int → Rows → Int → Rows → Int → Nat) : Prop where
  g0 : (1 ≤ (a2.length : Int)) → (¬ (a2.length : Int) ≤ 30) → R 0 0 = D.l []
  g1 : (1 ≤ (a2.length : Int)) → (¬ (a2.length : Int) ≤ 30) → R 1 0 = D.i 3
  g2 : (1 ≤ (a2.length : Int)) → ((a2.length : Int) ≤ 30) → (1 ≤ a1) → (¬ a1 ≤ 64) → R 0 0 = D.l []
  g3 : (1 ≤ (a2.length : Int)) → ((a2.length : Int) ≤ 30) → (1 ≤ a1) → (¬ a1 ≤ 64) → R 1 0 = D.i 3
  g4 : (1 ≤ (a2.length : Int)) → ((a2.length : Int) ≤ 30) → (1 ≤ a1) → (a1 ≤ 64) → (1 ≤ a0) → (¬ a0 ≤ 8) → R 0 0 = D.l []
  g5 : (1 ≤ (a2.length : Int)) → ((a2.length : Int) ≤ 30) → (1 ≤ a1) → (a1 ≤ 64) → (1 ≤ a0) → (¬ a0 ≤ 8) → R 1 0 = D.i 3
  i0 : (1 ≤ (a2.length : Int)) → ((a2.length : Int) ≤ 30) → (1 ≤ a1) → (a1 ≤ 64) → (1 ≤ a0) → (a0 ≤ 8) → I0 [] 0 0
  g7 : ∀ x0_0 x0_1 x0_2, I0 x0_0 x0_1 x0_2 → (1 ≤ (a2.length : Int)) → ((a2.length : Int) ≤ 30) → (1 ≤ a1) → (a1 ≤ 64) → (1 ≤ a0) → (a0 ≤ 8) → (x0_2 < (a2.length : Int)) → 0 ≤ x0_2
  g8 : ∀ x0_0 x0_1 x0_2, I0 x0_0 x0_1 x0_2 → (1 ≤ (a2.length : Int)) → ((a2.length : Int) ≤ 30) → (1 ≤ a1) → (a1 ≤ 64) → (1 ≤ a0) → (a0 ≤ 8) → (x0_2 < (a2.length : Int)) → x0_2 < (a2.length : Int)
  g9 : ∀ x0_0 x0_1 x0_2, I0 x0_0 x0_1 x0_2 → (1 ≤ (a2.length : Int)) → ((a2.length : Int) ≤ 30) → (1 ≤ a1) → (a1 ≤ 64) → (1 ≤ a0) → (a0 ≤ 8) → (x0_2 < (a2.length : Int)) → (0 ≤ (D.int (gt a2 x0_2.toNat 0))) → (¬ (D.int (gt a2 x0_2.toNat 0)) ≤ a1) → R 0 0 = D.l []
  g10 : ∀ x0_0 x0_1 x0_2, I0 x0_0 x0_1 x0_2 → (1 ≤ (a2.length : Int)) → ((a2.length : Int) ≤ 30) → (1 ≤ a1) → (a1 ≤ 64) → (1 ≤ a0) → (a0 ≤ 8) → (x0_2 < (a2.length : Int)) → (0 ≤ (D.int (gt a2 x0_2.toNat 0))) → (¬ (D.int (gt a2 x0_2.toNat 0)) ≤ a1) → R 1 0 = D.i 3
  g11 : ∀ x0_0 x0_1 x0_2, I0 x0_0 x0_1 x0_2 → (1 ≤ (a2.length : Int)) → ((a2.length : Int) ≤ 30) → (1 ≤ a1) → (a1 ≤ 64) → (1 ≤ a0) → (a0 ≤ 8) → (x0_2 < (a2.length : Int)) → (0 ≤ (D.int (gt a2 x0_2.toNat 0))) → ((D.int (gt a2 x0_2.toNat 0)) ≤ a1) → -9223372036854775808 ≤ (x0_2 + 1) ∧ (x0_2 + 1) ≤ 9223372036854775807
  n12 : ∀ x0_0 x0_1 x0_2, I0 x0_0 x0_1 x0_2 → (1 ≤ (a2.length : Int)) → ((a2.length : Int) ≤ 30) → (1 ≤ a1) → (a1 ≤ 64) → (1 ≤ a0) → (a0 ≤ 8) → (x0_2 < (a2.length : Int)) → (0 ≤ (D.int (gt a2 x0_2.toNat 0))) → ((D.int (gt a2 x0_2.toNat 0)) ≤ a1) → I0 x0_0 x0_1 (x0_2 + 1) ∧ m0 x0_0 x0_1 (x0_2 + 1) < m0 x0_0 x0_1 x0_2
  g13 : ∀ x0_0 x0_1 x0_2, I0 x0_0 x0_1 x0_2 → (1 ≤ (a2.length : Int)) → ((a2.length : Int) ≤ 30) → (1 ≤ a1) → (a1 ≤ 64) → (1 ≤ a0) → (a0 ≤ 8) → (x0_2 < (a2.length : Int)) → (¬ 0 ≤ (D.int (gt a2 x0_2.toNat 0))) → R 0 0 = D.l []
  g14 : ∀ x0_0 x0_1 x0_2, I0 x0_0 x0_1 x0_2 → (1 ≤ (a2.length : Int)) → ((a2.length : Int) ≤ 30) → (1 ≤ a1) → (a1 ≤ 64) → (1 ≤ a0) → (a0 ≤ 8) → (x0_2 < (a2.length : Int)) → (¬ 0 ≤ (D.int (gt a2 x0_2.toNat 0))) → R 1 0 = D.i 3
  i1 : ∀ x0_0 x0_1 x0_2, I0 x0_0 x0_1 x0_2 → (1 ≤ (a2.length : Int)) → ((a2.length : Int) ≤ 30) → (1 ≤ a1) → (a1 ≤ 64) → (1 ≤ a0) → (a0 ≤ 8) → (¬ x0_2 < (a2.length : Int)) → I1 x0_0 x0_1 x0_2 [] 0
  g16 : ∀ x0_0 x0_1 x0_2, I0 x0_0 x0_1 x0_2 → ∀ x1_0 x1_1, I1 x0_0 x0_1 x0_2 x1_0 x1_1 → (1 ≤ (a2.length : Int)) → ((a2.length : Int) ≤ 30) → (1 ≤ a1) → (a1 ≤ 64) → (1 ≤ a0) → (a0 ≤ 8) → (¬ x0_2 < (a2.length : Int)) → -9223372036854775808 ≤ (a1 + 1) ∧ (a1 + 1) ≤ 9223372036854775807
  g17 : ∀ x0_0 x0_1 x0_2, I0 x0_0 x0_1 x0_2 → ∀ x1_0 x1_1, I1 x0_0 x0_1 x0_2 x1_0 x1_1 → (1 ≤ (a2.length : Int)) → ((a2.length : Int) ≤ 30) → (1 ≤ a1) → (a1 ≤ 64) → (1 ≤ a0) → (a0 ≤ 8) → (¬ x0_2 < (a2.length : Int)) → -9223372036854775808 ≤ (a0 * (a1 + 1)) ∧ (a0 * (a1 + 1)) ≤ 9223372036854775807
  g18 : ∀ x0_0 x0_1 x0_2, I0 x0_0 x0_1 x0_2 → ∀ x1_0 x1_1, I1 x0_0 x0_1 x0_2 x1_0 x1_1 → (1 ≤ (a2.length : Int)) → ((a2.length : Int) ≤ 30) → (1 ≤ a1) → (a1 ≤ 64) → (1 ≤ a0) → (a0 ≤ 8) → (¬ x0_2 < (a2.length : Int)) → -9223372036854775808 ≤ ((a0 * (a1 + 1)) + a1) ∧ ((a0 * (a1 + 1)) + a1) ≤ 9223372036854775807
  i2 : ∀ x0_0 x0_1 x0_2, I0 x0_0 x0_1 x0_2 → ∀ x1_0 x1_1, I1 x0_0 x0_1 x0_2 x1_0 x1_1 → (1 ≤ (a2.length : Int)) → ((a2.length : Int) ≤ 30) → (1 ≤ a1) → (a1 ≤ 64) → (1 ≤ a0) → (a0 ≤ 8) → (¬ x0_2 < (a2.length : Int)) → (x1_1 ≤ ((a0 * (a1 + 1)) + a1)) → I2 x0_0 x0_1 x0_2 x1_0 x1_1 x1_0 0
  g20 : ∀ x0_0 x0_1 x0_2, I0 x0_0 x0_1 x0_2 → ∀ x1_0 x1_1, I1 x0_0 x0_1 x0_2 x1_0 x1_1 → ∀ x2_0 x2_1, I2 x0_0 x0_1 x0_2 x1_0 x1_1 x2_0 x2_1 → (1 ≤ (a2.length : Int)) → ((a2.length : Int) ≤ 30) → (1 ≤ a1) → (a1 ≤ 64) → (1 ≤ a0) → (a0 ≤ 8) → (¬ x0_2 < (a2.length : Int)) → (x1_1 ≤ ((a0 * (a1 + 1)) + a1)) → (x2_1 < (a2.length : Int)) → (1 ≤ x1_1) → 0 ≤ x2_1
  g21 : ∀ x0_0 x0_1 x0_2, I0 x0_0 x0_1 x0_2 → ∀ x1_0 x1_1, I1 x0_0 x0_1 x0_2 x1_0 x1_1 → ∀ x2_0 x2_1, I2 x0_0 x0_1 x0_2 x1_0 x1_1 x2_0 x2_1 → (1 ≤ (a2.length : Int)) → ((a2.length : Int) ≤ 30) → (1 ≤ a1) → (a1 ≤ 64) → (1 ≤ a0) → (a0 ≤ 8) → (¬ x0_2 < (a2.length : Int)) → (x1_1 ≤ ((a0 * (a1 + 1)) + a1)) → (x2_1 < (a2.length : Int)) → (1 ≤ x1_1) → x2_1 < (a2.length : Int)
  g22 : ∀ x0_0 x0_1 x0_2, I0 x0_0 x0_1 x0_2 → ∀ x1_0 x1_1, I1 x0_0 x0_1 x0_2 x1_0 x1_1 → ∀ x2_0 x2_1, I2 x0_0 x0_1 x0_2 x1_0 x1_1 x2_0 x2_1 → (1 ≤ (a2.length : Int)) → ((a2.length : Int) ≤ 30) → (1 ≤ a1) → (a1 ≤ 64) → (1 ≤ a0) → (a0 ≤ 8) → (¬ x0_2 < (a2.length : Int)) → (x1_1 ≤ ((a0 * (a1 + 1)) + a1)) → (x2_1 < (a2.length : Int)) → (1 ≤ x1_1) → (x1_1 ≤ (D.int (gt a2 x2_1.toNat 0))) → (x2_0.length + (List.length [[D.i x1_1, D.i x2_1]])) * 16 ≤ 4294967296 ∧ (x2_0.length + (List.length [[D.i x1_1, D.i x2_1]])) ≤ 4294967296
  g23 : ∀ x0_0 x0_1 x0_2, I0 x0_0 x0_1 x0_2 → ∀ x1_0 x1_1, I1 x0_0 x0_1 x0_2 x1_0 x1_1 → ∀ x2_0 x2_1, I2 x0_0 x0_1 x0_2 x1_0 x1_1 x2_0 x2_1 → (1 ≤ (a2.length : Int)) → ((a2.length : Int) ≤ 30) → (1 ≤ a1) → (a1 ≤ 64) → (1 ≤ a0) → (a0 ≤ 8) → (¬ x0_2 < (a2.length : Int)) → (x1_1 ≤ ((a0 * (a1 + 1)) + a1)) → (x2_1 < (a2.length : Int)) → (1 ≤ x1_1) → (x1_1 ≤ (D.int (gt a2 x2_1.toNat 0))) → -9223372036854775808 ≤ (x2_1 + 1) ∧ (x2_1 + 1) ≤ 9223372036854775807
  n24 : ∀ x0_0 x0_1 x0_2, I0 x0_0 x0_1 x0_2 → ∀ x1_0 x1_1, I1 x0_0 x0_1 x0_2 x1_0 x1_1 → ∀ x2_0 x2_1, I2 x0_0 x0_1 x0_2 x1_0 x1_1 x2_0 x2_1 → (1 ≤ (a2.length : Int)) → ((a2.length : Int) ≤ 30) → (1 ≤ a1) → (a1 ≤ 64) → (1 ≤ a0) → (a0 ≤ 8) → (¬ x0_2 < (a2.length : Int)) → (x1_1 ≤ ((a0 * (a1 + 1)) + a1)) → (x2_1 < (a2.length : Int)) → (1 ≤ x1_1) → (x1_1 ≤ (D.int (gt a2 x2_1.toNat 0))) → I2 x0_0 x0_1 x0_2 x1_0 x1_1 (x2_0 ++ [[D.i x1_1, D.i x2_1]]) (x2_1 + 1) ∧ m2 x0_0 x0_1 x0_2 x1_0 x1_1 (x2_0 ++ [[D.i x1_1, D.i x2_1]]) (x2_1 + 1) < m2 x0_0 x0_1 x0_2 x1_0 x1_1 x2_0 x2_1
  g25 : ∀ x0_0 x0_1 x0_2, I0 x0_0 x0_1 x0_2 → ∀ x1_0 x1_1, I1 x0_0 x0_1 x0_2 x1_0 x1_1 → ∀ x2_0 x2_1, I2 x0_0 x0_1 x0_2 x1_0 x1_1 x2_0 x2_1 → (1 ≤ (a2.length : Int)) → ((a2.length : Int) ≤ 30) → (1 ≤ a1) → (a1 ≤ 64) → (1 ≤ a0) → (a0 ≤ 8) → (¬ x0_2 < (a2.length : Int)) → (x1_1 ≤ ((a0 * (a1 + 1)) + a1)) → (x2_1 < (a2.length : Int)) → (1 ≤ x1_1) → (¬ x1_1 ≤ (D.int (gt a2 x2_1.toNat 0))) → -9223372036854775808 ≤ (x2_1 + 1) ∧ (x2_1 + 1) ≤ 9223372036854775807
  n26 : ∀ x0_0 x0_1 x0_2, I0 x0_0 x0_1 x0_2 → ∀ x1_0 x1_1, I1 x0_0 x0_1 x0_2 x1_0 x1_1 → ∀ x2_0 x2_1, I2 x0_0 x0_1 x0_2 x1_0 x1_1 x2_0 x2_1 → (1 ≤ (a2.length : Int)) → ((a2.length : Int) ≤ 30) → (1 ≤ a1) → (a1 ≤ 64) → (1 ≤ a0) → (a0 ≤ 8) → (¬ x0_2 < (a2.length : Int)) → (x1_1 ≤ ((a0 * (a1 + 1)) + a1)) → (x2_1 < (a2.length : Int)) → (1 ≤ x1_1) → (¬ x1_1 ≤ (D.int (gt a2 x2_1.toNat 0))) → I2 x0_0 x0_1 x0_2 x1_0 x1_1 x2_0 (x2_1 + 1) ∧ m2 x0_0 x0_1 x0_2 x1_0 x1_1 x2_0 (x2_1 + 1) < m2 x0_0 x0_1 x0_2 x1_0 x1_1 x2_0 x2_1
  g27 : ∀ x0_0 x0_1 x0_2, I0 x0_0 x0_1 x0_2 → ∀ x1_0 x1_1, I1 x0_0 x0_1 x0_2 x1_0 x1_1 → ∀ x2_0 x2_1, I2 x0_0 x0_1 x0_2 x1_0 x1_1 x2_0 x2_1 → (1 ≤ (a2.length : Int)) → ((a2.length : Int) ≤ 30) → (1 ≤ a1) → (a1 ≤ 64) → (1 ≤ a0) → (a0 ≤ 8) → (¬ x0_2 < (a2.length : Int)) → (x1_1 ≤ ((a0 * (a1 + 1)) + a1)) → (x2_1 < (a2.length : Int)) → (¬ 1 ≤ x1_1) → -9223372036854775808 ≤ (x2_1 + 1) ∧ (x2_1 + 1) ≤ 9223372036854775807
  n28 : ∀ x0_0 x0_1 x0_2, I0 x0_0 x0_1 x0_2 → ∀ x1_0 x1_1, I1 x0_0 x0_1 x0_2 x1_0 x1_1 → ∀ x2_0 x2_1, I2 x0_0 x0_1 x0_2 x1_0 x1_1 x2_0 x2_1 → (1 ≤ (a2.length : Int)) → ((a2.length : Int) ≤ 30) → (1 ≤ a1) → (a1 ≤ 64) → (1 ≤ a0) → (a0 ≤ 8) → (¬ x0_2 < (a2.length : Int)) → (x1_1 ≤ ((a0 * (a1 + 1)) + a1)) → (x2_1 < (a2.length : Int)) → (¬ 1 ≤ x1_1) → I2 x0_0 x0_1 x0_2 x1_0 x1_1 x2_0 (x2_1 + 1) ∧ m2 x0_0 x0_1 x0_2 x1_0 x1_1 x2_0 (x2_1 + 1) < m2 x0_0 x0_1 x0_2 x1_0 x1_1 x2_0 x2_1
  g29 : ∀ x0_0 x0_1 x0_2, I0 x0_0 x0_1 x0_2 → ∀ x1_0 x1_1, I1 x0_0 x0_1 x0_2 x1_0 x1_1 → ∀ x2_0 x2_1, I2 x0_0 x0_1 x0_2 x1_0 x1_1 x2_0 x2_1 → (1 ≤ (a2.length : Int)) → ((a2.length : Int) ≤ 30) → (1 ≤ a1) → (a1 ≤ 64) → (1 ≤ a0) → (a0 ≤ 8) → (¬ x0_2 < (a2.length : Int)) → (x1_1 ≤ ((a0 * (a1 + 1)) + a1)) → (¬ x2_1 < (a2.length : Int)) → (x1_1 = 0) → (x2_0.length + (List.length [[D.i 0, D.i (a2.length : Int)]])) * 16 ≤ 4294967296 ∧ (x2_0.length + (List.length [[D.i 0, D.i (a2.length : Int)]])) ≤ 4294967296
  i3 : ∀ x0_0 x0_1 x0_2, I0 x0_0 x0_1 x0_2 → ∀ x1_0 x1_1, I1 x0_0 x0_1 x0_2 x1_0 x1_1 → ∀ x2_0 x2_1, I2 x0_0 x0_1 x0_2 x1_0 x1_1 x2_0 x2_1 → (1 ≤ (a2.length : Int)) → ((a2.length : Int) ≤ 30) → (1 ≤ a1) → (a1 ≤ 64) → (1 ≤ a0) → (a0 ≤ 8) → (¬ x0_2 < (a2.length : Int)) → (x1_1 ≤ ((a0 * (a1 + 1)) + a1)) → (¬ x2_1 < (a2.length : Int)) → (x1_1 = 0) → I3 x0_0 x0_1 x0_2 x1_0 x1_1 x2_0 x2_1 (x2_0 ++ [[D.i 0, D.i (a2.length : Int)]]) 0
  g31 : ∀ x0_0 x0_1 x0_2, I0 x0_0 x0_1 x0_2 → ∀ x1_0 x1_1, I1 x0_0 x0_1 x0_2 x1_0 x1_1 → ∀ x2_0 x2_1, I2 x0_0 x0_1 x0_2 x1_0 x1_1 x2_0 x2_1 → ∀ x3_0 x3_1, I3 x0_0 x0_1 x0_2 x1_0 x1_1 x2_0 x2_1 x3_0 x3_1 → (1 ≤ (a2.length : Int)) → ((a2.length : Int) ≤ 30) → (1 ≤ a1) → (a1 ≤ 64) → (1 ≤ a0) → (a0 ≤ 8) → (¬ x0_2 < (a2.length : Int)) → (x1_1 ≤ ((a0 * (a1 + 1)) + a1)) → (¬ x2_1 < (a2.length : Int)) → (x1_1 = 0) → (x3_1 < a0) → -9223372036854775808 ≤ (x3_1 + 1) ∧ (x3_1 + 1) ≤ 9223372036854775807
  g32 : ∀ x0_0 x0_1 x0_2, I0 x0_0 x0_1 x0_2 → ∀ x1_0 x1_1, I1 x0_0 x0_1 x0_2 x1_0 x1_1 → ∀ x2_0 x2_1, I2 x0_0 x0_1 x0_2 x1_0 x1_1 x2_0 x2_1 → ∀ x3_0 x3_1, I3 x0_0 x0_1 x0_2 x1_0 x1_1 x2_0 x2_1 x3_0 x3_1 → (1 ≤ (a2.length : Int)) → ((a2.length : Int) ≤ 30) → (1 ≤ a1) → (a1 ≤ 64) → (1 ≤ a0) → (a0 ≤ 8) → (¬ x0_2 < (a2.length : Int)) → (x1_1 ≤ ((a0 * (a1 + 1)) + a1)) → (¬ x2_1 < (a2.length : Int)) → (x1_1 = 0) → (x3_1 < a0) → -9223372036854775808 ≤ (a1 + 1) ∧ (a1 + 1) ≤ 9223372036854775807
  g33 : ∀ x0_0 x0_1 x0_2, I0 x0_0 x0_1 x0_2 → ∀ x1_0 x1_1, I1 x0_0 x0_1 x0_2 x1_0 x1_1 → ∀ x2_0 x2_1, I2 x0_0 x0_1 x0_2 x1_0 x1_1 x2_0 x2_1 → ∀ x3_0 x3_1, I3 x0_0 x0_1 x0_2 x1_0 x1_1 x2_0 x2_1 x3_0 x3_1 → (1 ≤ (a2.length : Int)) → ((a2.length : Int) ≤ 30) → (1 ≤ a1) → (a1 ≤ 64) → (1 ≤ a0) → (a0 ≤ 8) → (¬ x0_2 < (a2.length : Int)) → (x1_1 ≤ ((a0 * (a1 + 1)) + a1)) → (¬ x2_1 < (a2.length : Int)) → (x1_1 = 0) → (x3_1 < a0) → -9223372036854775808 ≤ ((x3_1 + 1) * (a1 + 1)) ∧ ((x3_1 + 1) * (a1 + 1)) ≤ 9223372036854775807
  g34 : ∀ x0_0 x0_1 x0_2, I0 x0_0 x0_1 x0_2 → ∀ x1_0 x1_1, I1 x0_0 x0_1 x0_2 x1_0 x1_1 → ∀ x2_0 x2_1, I2 x0_0 x0_1 x0_2 x1_0 x1_1 x2_0 x2_1 → ∀ x3_0 x3_1, I3 x0_0 x0_1 x0_2 x1_0 x1_1 x2_0 x2_1 x3_0 x3_1 → (1 ≤ (a2.length : Int)) → ((a2.length : Int) ≤ 30) → (1 ≤ a1) → (a1 ≤ 64) → (1 ≤ a0) → (a0 ≤ 8) → (¬ x0_2 < (a2.length : Int)) → (x1_1 ≤ ((a0 * (a1 + 1)) + a1)) → (¬ x2_1 < (a2.length : Int)) → (x1_1 = 0) → (x3_1 < a0) → (x1_1 = ((x3_1 + 1) * (a1 + 1))) → -9223372036854775808 ≤ ((a2.length : Int) + 1) ∧ ((a2.length : Int) + 1) ≤ 9223372036854775807
  g35 : ∀ x0_0 x0_1 x0_2, I0 x0_0 x0_1 x0_2 → ∀ x1_0 x1_1, I1 x0_0 x0_1 x0_2 x1_0 x1_1 → ∀ x2_0 x2_1, I2 x0_0 x0_1 x0_2 x1_0 x1_1 x2_0 x2_1 → ∀ x3_0 x3_1, I3 x0_0 x0_1 x0_2 x1_0 x1_1 x2_0 x2_1 x3_0 x3_1 → (1 ≤ (a2.length : Int)) → ((a2.length : Int) ≤ 30) → (1 ≤ a1) → (a1 ≤ 64) → (1 ≤ a0) → (a0 ≤ 8) → (¬ x0_2 < (a2.length : Int)) → (x1_1 ≤ ((a0 * (a1 + 1)) + a1)) → (¬ x2_1 < (a2.length : Int)) → (x1_1 = 0) → (x3_1 < a0) → (x1_1 = ((x3_1 + 1) * (a1 + 1))) → -9223372036854775808 ≤ (2 * x3_1) ∧ (2 * x3_1) ≤ 9223372036854775807
  g36 : ∀ x0_0 x0_1 x0_2, I0 x0_0 x0_1 x0_2 → ∀ x1_0 x1_1, I1 x0_0 x0_1 x0_2 x1_0 x1_1 → ∀ x2_0 x2_1, I2 x0_0 x0_1 x0_2 x1_0 x1_1 x2_0 x2_1 → ∀ x3_0 x3_1, I3 x0_0 x0_1 x0_2 x1_0 x1_1 x2_0 x2_1 x3_0 x3_1 → (1 ≤ (a2.length : Int)) → ((a2.length : Int) ≤ 30) → (1 ≤ a1) → (a1 ≤ 64) → (1 ≤ a0) → (a0 ≤ 8) → (¬ x0_2 < (a2.length : Int)) → (x1_1 ≤ ((a0 * (a1 + 1)) + a1)) → (¬ x2_1 < (a2.length : Int)) → (x1_1 = 0) → (x3_1 < a0) → (x1_1 = ((x3_1 + 1) * (a1 + 1))) → -9223372036854775808 ≤ (((a2.length : Int) + 1) + (2 * x3_1)) ∧ (((a2.length : Int) + 1) + (2 * x3_1)) ≤ 9223372036854775807
  g37 : ∀ x0_0 x0_1 x0_2, I0 x0_0 x0_1 x0_2 → ∀ x1_0 x1_1, I1 x0_0 x0_1 x0_2 x1_0 x1_1 → ∀ x2_0 x2_1, I2 x0_0 x0_1 x0_2 x1_0 x1_1 x2_0 x2_1 → ∀ x3_0 x3_1, I3 x0_0 x0_1 x0_2 x1_0 x1_1 x2_0 x2_1 x3_0 x3_1 → (1 ≤ (a2.length : Int)) → ((a2.length : Int) ≤ 30) → (1 ≤ a1) → (a1 ≤ 64) → (1 ≤ a0) → (a0 ≤ 8) → (¬ x0_2 < (a2.length : Int)) → (x1_1 ≤ ((a0 * (a1 + 1)) + a1)) → (¬ x2_1 < (a2.length : Int)) → (x1_1 = 0) → (x3_1 < a0) → (x1_1 = ((x3_1 + 1) * (a1 + 1))) → (x3_0.length + (List.length [[D.i x1_1, D.i (((a2.length : Int) + 1) + (2 * x3_1))]])) * 16 ≤ 4294967296 ∧ (x3_0.length + (List.length [[D.i x1_1, D.i (((a2.length : Int) + 1) + (2 * x3_1))]])) ≤ 4294967296
  g38 : ∀ x0_0 x0_1 x0_2, I0 x0_0 x0_1 x0_2 → ∀ x1_0 x1_1, I1 x0_0 x0_1 x0_2 x1_0 x1_1 → ∀ x2_0 x2_1, I2 x0_0 x0_1 x0_2 x1_0 x1_1 x2_0 x2_1 → ∀ x3_0 x3_1, I3 x0_0 x0_1 x0_2 x1_0 x1_1 x2_0 x2_1 x3_0 x3_1 → (1 ≤ (a2.length : Int)) → ((a2.length : Int) ≤ 30) → (1 ≤ a1) → (a1 ≤ 64) → (1 ≤ a0) → (a0 ≤ 8) → (¬ x0_2 < (a2.length : Int)) → (x1_1 ≤ ((a0 * (a1 + 1)) + a1)) → (¬ x2_1 < (a2.length : Int)) → (x1_1 = 0) → (x3_1 < a0) → (x1_1 = ((x3_1 + 1) * (a1 + 1))) → -9223372036854775808 ≤ (((x3_1 + 1) * (a1 + 1)) + a1) ∧ (((x3_1 + 1) * (a1 + 1)) + a1) ≤ 9223372036854775807
  g39 : ∀ x0_0 x0_1 x0_2, I0 x0_0 x0_1 x0_2 → ∀ x1_0 x1_1, I1 x0_0 x0_1 x0_2 x1_0 x1_1 → ∀ x2_0 x2_1, I2 x0_0 x0_1 x0_2 x1_0 x1_1 x2_0 x2_1 → ∀ x3_0 x3_1, I3 x0_0 x0_1 x0_2 x1_0 x1_1 x2_0 x2_1 x3_0 x3_1 → (1 ≤ (a2.length : Int)) → ((a2.length : Int) ≤ 30) → (1 ≤ a1) → (a1 ≤ 64) → (1 ≤ a0) → (a0 ≤ 8) → (¬ x0_2 < (a2.length : Int)) → (x1_1 ≤ ((a0 * (a1 + 1)) + a1)) → (¬ x2_1 < (a2.length : Int)) → (x1_1 = 0) → (x3_1 < a0) → (x1_1 = ((x3_1 + 1) * (a1 + 1))) → (x1_1 = (((x3_1 + 1) * (a1 + 1)) + a1)) → -9223372036854775808 ≤ ((a2.length : Int) + 2) ∧ ((a2.length : Int) + 2) ≤ 9223372036854775807
  g40 : ∀ x0_0 x0_1 x0_2, I0 x0_0 x0_1 x0_2 → ∀ x1_0 x1_1, I1 x0_0 x0_1 x0_2 x1_0 x1_1 → ∀ x2_0 x2_1, I2 x0_0 x0_1 x0_2 x1_0 x1_1 x2_0 x2_1 → ∀ x3_0 x3_1, I3 x0_0 x0_1 x0_2 x1_0 x1_1 x2_0 x2_1 x3_0 x3_1 → (1 ≤ (a2.length : Int)) → ((a2.length : Int) ≤ 30) → (1 ≤ a1) → (a1 ≤ 64) → (1 ≤ a0) → (a0 ≤ 8) → (¬ x0_2 < (a2.length : Int)) → (x1_1 ≤ ((a0 * (a1 + 1)) + a1)) → (¬ x2_1 < (a2.length : Int)) → (x1_1 = 0) → (x3_1 < a0) → (x1_1 = ((x3_1 + 1) * (a1 + 1))) → (x1_1 = (((x3_1 + 1) * (a1 + 1)) + a1)) → -9223372036854775808 ≤ (2 * x3_1) ∧ (2 * x3_1) ≤ 9223372036854775807
  g41 : ∀ x0_0 x0_1 x0_2, I0 x0_0 x0_1 x0_2 → ∀ x1_0 x1_1, I1 x0_0 x0_1 x0_2 x1_0 x1_1 → ∀ x2_0 x2_1, I2 x0_0 x0_1 x0_2 x1_0 x1_1 x2_0 x2_1 → ∀ x3_0 x3_1, I3 x0_0 x0_1 x0_2 x1_0 x1_1 x2_0 x2_1 x3_0 x3_1 → (1 ≤ (a2.length : Int)) → ((a2.length : Int) ≤ 30) → (1 ≤ a1) → (a1 ≤ 64) → (1 ≤ a0) → (a0 ≤ 8) → (¬ x0_2 < (a2.length : Int)) → (x1_1 ≤ ((a0 * (a1 + 1)) + a1)) → (¬ x2_1 < (a2.length : Int)) → (x1_1 = 0) → (x3_1 < a0) → (x1_1 = ((x3_1 + 1) * (a1 + 1))) → (x1_1 = (((x3_1 + 1) * (a1 + 1)) + a1)) → -9223372036854775808 ≤ (((a2.length : Int) + 2) + (2 * x3_1)) ∧ (((a2.length : Int) + 2) + (2 * x3_1)) ≤ 9223372036854775807
  g42 : ∀ x0_0 x0_1 x0_2, I0 x0_0 x0_1 x0_2 → ∀ x1_0 x1_1, I1 x0_0 x0_1 x0_2 x1_0 x1_1 → ∀ x2_0 x2_1, I2 x0_0 x0_1 x0_2 x1_0 x1_1 x2_0 x2_1 → ∀ x3_0 x3_1, I3 x0_0 x0_1 x0_2 x1_0 x1_1 x2_0 x2_1 x3_0 x3_1 → (1 ≤ (a2.length : Int)) → ((a2.length : Int) ≤ 30) → (1 ≤ a1) → (a1 ≤ 64) → (1 ≤ a0) → (a0 ≤ 8) → (¬ x0_2 < (a2.length : Int)) → (x1_1 ≤ ((a0 * (a1 + 1)) + a1)) → (¬ x2_1 < (a2.length : Int)) → (x1_1 = 0) → (x3_1 < a0) → (x1_1 = ((x3_1 + 1) * (a1 + 1))) → (x1_1 = (((x3_1 + 1) * (a1 + 1)) + a1)) → ((List.length (x3_0 ++ [[D.i x1_1, D.i (((a2.length : Int) + 1) + (2 * x3_1))]])) + (List.length [[D.i x1_1, D.i (((a2.length : Int) + 2) + (2 * x3_1))]])) * 16 ≤ 4294967296 ∧ ((List.length (x3_0 ++ [[D.i x1_1, D.i (((a2.length : Int) + 1) + (2 * x3_1))]])) + (List.length [[D.i x1_1, D.i (((a2.length : Int) + 2) + (2 * x3_1))]])) ≤ 4294967296
  g43 : ∀ x0_0 x0_1 x0_2, I0 x0_0 x0_1 x0_2 → ∀ x1_0 x1_1, I1 x0_0 x0_1 x0_2 x1_0 x1_1 → ∀ x2_0 x2_1, I2 x0_0 x0_1 x0_2 x1_0 x1_1 x2_0 x2_1 → ∀ x3_0 x3_1, I3 x0_0 x0_1 x0_2 x1_0 x1_1 x2_0 x2_1 x3_0 x3_1 → (1 ≤ (a2.length : Int)) → ((a2.length : Int) ≤ 30) → (1 ≤ a1) → (a1 ≤ 64) → (1 ≤ a0) → (a0 ≤ 8) → (¬ x0_2 < (a2.length : Int)) → (x1_1 ≤ ((a0 * (a1 + 1)) + a1)) → (¬ x2_1 < (a2.length : Int)) → (x1_1 = 0) → (x3_1 < a0) → (x1_1 = ((x3_1 + 1) * (a1 + 1))) → (x1_1 = (((x3_1 + 1) * (a1 + 1)) + a1)) → -9223372036854775808 ≤ (x3_1 + 1) ∧ (x3_1 + 1) ≤ 9223372036854775807
  n44 : ∀ x0_0 x0_1 x0_2, I0 x0_0 x0_1 x0_2 → ∀ x1_0 x1_1, I1 x0_0 x0_1 x0_2 x1_0 x1_1 → ∀ x2_0 x2_1, I2 x0_0 x0_1 x0_2 x1_0 x1_1 x2_0 x2_1 → ∀ x3_0 x3_1, I3 x0_0 x0_1 x0_2 x1_0 x1_1 x2_0 x2_1 x3_0 x3_1 → (1 ≤ (a2.length : Int)) → ((a2.length : Int) ≤ 30) → (1 ≤ a1) → (a1 ≤ 64) → (1 ≤ a0) → (a0 ≤ 8) → (¬ x0_2 < (a2.length : Int)) → (x1_1 ≤ ((a0 * (a1 + 1)) + a1)) → (¬ x2_1 < (a2.length : Int)) → (x1_1 = 0) → (x3_1 < a0) → (x1_1 = ((x3_1 + 1) * (a1 + 1))) → (x1_1 = (((x3_1 + 1) * (a1 + 1)) + a1)) → I3 x0_0 x0_1 x0_2 x1_0 x1_1 x2_0 x2_1 ((x3_0 ++ [[D.i x1_1, D.i (((a2.length : Int) + 1) + (2 * x3_1))]]) ++ [[D.i x1_1, D.i (((a2.length : Int) + 2) + (2 * x3_1))]]) (x3_1 + 1) ∧ m3 x0_0 x0_1 x0_2 x1_0 x1_1 x2_0 x2_1 ((x3_0 ++ [[D.i x1_1, D.i (((a2.length : Int) + 1) + (2 * x3_1))]]) ++ [[D.i x1_1, D.i (((a2.length : Int) + 2) + (2 * x3_1))]]) (x3_1 + 1) < m3 x0_0 x0_1 x0_2 x1_0 x1_1 x2_0 x2_1 x3_0 x3_1
  g45 : ∀ x0_0 x0_1 x0_2, I0 x0_0 x0_1 x0_2 → ∀ x1_0 x1_1, I1 x0_0 x0_1 x0_2 x1_0 x1_1 → ∀ x2_0 x2_1, I2 x0_0 x0_1 x0_2 x1_0 x1_1 x2_0 x2_1 → ∀ x3_0 x3_1, I3 x0_0 x0_1 x0_2 x1_0 x1_1 x2_0 x2_1 x3_0 x3_1 → (1 ≤ (a2.length : Int)) → ((a2.length : Int) ≤ 30) → (1 ≤ a1) → (a1 ≤ 64) → (1 ≤ a0) → (a0 ≤ 8) → (¬ x0_2 < (a2.length : Int)) → (x1_1 ≤ ((a0 * (a1 + 1)) + a1)) → (¬ x2_1 < (a2.length : Int)) → (x1_1 = 0) → (x3_1 < a0) → (x1_1 = ((x3_1 + 1) * (a1 + 1))) → (¬ x1_1 = (((x3_1 + 1) * (a1 + 1)) + a1)) → -9223372036854775808 ≤ (x3_1 + 1) ∧ (x3_1 + 1) ≤ 9223372036854775807
  n46 : ∀ x0_0 x0_1 x0_2, I0 x0_0 x0_1 x0_2 → ∀ x1_0 x1_1, I1 x0_0 x0_1 x0_2 x1_0 x1_1 → ∀ x2_0 x2_1, I2 x0_0 x0_1 x0_2 x1_0 x1_1 x2_0 x2_1 → ∀ x3_0 x3_1, I3 x0_0 x0_1 x0_2 x1_0 x1_1 x2_0 x2_1 x3_0 x3_1 → (1 ≤ (a2.length : Int)) → ((a2.length : Int) ≤ 30) → (1 ≤ a1) → (a1 ≤ 64) → (1 ≤ a0) → (a0 ≤ 8) → (¬ x0_2 < (a2.length : Int)) → (x1_1 ≤ ((a0 * (a1 + 1)) + a1)) → (¬ x2_1 < (a2.length : Int)) → (x1_1 = 0) → (x3_1 < a0) → (x1_1 = ((x3_1 + 1) * (a1 + 1))) → (¬ x1_1 = (((x3_1 + 1) * (a1 + 1)) + a1)) → I3 x0_0 x0_1 x0_2 x1_0 x1_1 x2_0 x2_1 (x3_0 ++ [[D.i x1_1, D.i (((a2.length : Int) + 1) + (2 * x3_1))]]) (x3_1 + 1) ∧ m3 x0_0 x0_1 x0_2 x1_0 x1_1 x2_0 x2_1 (x3_0 ++ [[D.i x1_1, D.i (((a2.length : Int) + 1) + (2 * x3_1))]]) (x3_1 + 1) < m3 x0_0 x0_1 x0_2 x1_0 x1_1 x2_0 x2_1 x3_0 x3_1
  g47 : ∀ x0_0 x0_1 x0_2, I0 x0_0 x0_1 x0_2 → ∀ x1_0 x1_1, I1 x0_0 x0_1 x0_2 x1_0 x1_1 → ∀ x2_0 x2_1, I2 x0_0 x0_1 x0_2 x1_0 x1_1 x2_0 x2_1 → ∀ x3_0 x3_1, I3 x0_0 x0_1 x0_2 x1_0 x1_1 x2_0 x2_1 x3_0 x3_1 → (1 ≤ (a2.length : Int)) → ((a2.length : Int) ≤ 30) → (1 ≤ a1) → (a1 ≤ 64) → (1 ≤ a0) → (a0 ≤ 8) → (¬ x0_2 < (a2.length : Int)) → (x1_1 ≤ ((a0 * (a1 + 1)) + a1)) → (¬ x2_1 < (a2.length : Int)) → (x1_1 = 0) → (x3_1 < a0) → (¬ x1_1 = ((x3_1 + 1) * (a1 + 1))) → -9223372036854775808 ≤ (((x3_1 + 1) * (a1 + 1)) + a1) ∧ (((x3_1 + 1) * (a1 + 1)) + a1) ≤ 9223372036854775807
  g48 : ∀ x0_0 x0_1 x0_2, I0 x0_0 x0_1 x0_2 → ∀ x1_0 x1_1, I1 x0_0 x0_1 x0_2 x1_0 x1_1 → ∀ x2_0 x2_1, I2 x0_0 x0_1 x0_2 x1_0 x1_1 x2_0 x2_1 → ∀ x3_0 x3_1, I3 x0_0 x0_1 x0_2 x1_0 x1_1 x2_0 x2_1 x3_0 x3_1 → (1 ≤ (a2.length : Int)) → ((a2.length : Int) ≤ 30) → (1 ≤ a1) → (a1 ≤ 64) → (1 ≤ a0) → (a0 ≤ 8) → (¬ x0_2 < (a2.length : Int)) → (x1_1 ≤ ((a0 * (a1 + 1)) + a1)) → (¬ x2_1 < (a2.length : Int)) → (x1_1 = 0) → (x3_1 < a0) → (¬ x1_1 = ((x3_1 + 1) * (a1 + 1))) → (x1_1 = (((x3_1 + 1) * (a1 + 1)) + a1)) → -9223372036854775808 ≤ ((a2.length : Int) + 2) ∧ ((a2.length : Int) + 2) ≤ 9223372036854775807
  g49 : ∀ x0_0 x0_1 x0_2, I0 x0_0 x0_1 x0_2 → ∀ x1_0 x1_1, I1 x0_0 x0_1 x0_2 x1_0 x1_1 → ∀ x2_0 x2_1, I2 x0_0 x0_1 x0_2 x1_0 x1_1 x2_0 x2_1 → ∀ x3_0 x3_1, I3 x0_0 x0_1 x0_2 x1_0 x1_1 x2_0 x2_1 x3_0 x3_1 → (1 ≤ (a2.length : Int)) → ((a2.length : Int) ≤ 30) → (1 ≤ a1) → (a1 ≤ 64) → (1 ≤ a0) → (a0 ≤ 8) → (¬ x0_2 < (a2.length : Int)) → (x1_1 ≤ ((a0 * (a1 + 1)) + a1)) → (¬ x2_1 < (a2.length : Int)) → (x1_1 = 0) → (x3_1 < a0) → (¬ x1_1 = ((x3_1 + 1) * (a1 + 1))) → (x1_1 = (((x3_1 + 1) * (a1 + 1)) + a1)) → -9223372036854775808 ≤ (2 * x3_1) ∧ (2 * x3_1) ≤ 9223372036854775807
  g50 : ∀ x0_0 x0_1 x0_2, I0 x0_0 x0_1 x0_2 → ∀ x1_0 x1_1, I1 x0_0 x0_1 x0_2 x1_0 x1_1 → ∀ x2_0 x2_1, I2 x0_0 x0_1 x0_2 x1_0 x1_1 x2_0 x2_1 → ∀ x3_0 x3_1, I3 x0_0 x0_1 x0_2 x1_0 x1_1 x2_0 x2_1 x3_0 x3_1 → (1 ≤ (a2.length : Int)) → ((a2.length : Int) ≤ 30) → (1 ≤ a1) → (a1 ≤ 64) → (1 ≤ a0) → (a0 ≤ 8) → (¬ x0_2 < (a2.length : Int)) → (x1_1 ≤ ((a0 * (a1 + 1)) + a1)) → (¬ x2_1 < (a2.length : Int)) → (x1_1 = 0) → (x3_1 < a0) → (¬ x1_1 = ((x3_1 + 1) * (a1 + 1))) → (x1_1 = (((x3_1 + 1) * (a1 + 1)) + a1)) → -9223372036854775808 ≤ (((a2.length : Int) + 2) + (2 * x3_1)) ∧ (((a2.length : Int) + 2) + (2 * x3_1)) ≤ 9223372036854775807
  g51 : ∀ x0_0 x0_1 x0_2, I0 x0_0 x0_1 x0_2 → ∀ x1_0 x1_1, I1 x0_0 x0_1 x0_2 x1_0 x1_1 → ∀ x2_0 x2_1, I2 x0_0 x0_1 x0_2 x1_0 x1_1 x2_0 x2_1 → ∀ x3_0 x3_1, I3 x0_0 x0_1 x0_2 x1_0 x1_1 x2_0 x2_1 x3_0 x3_1 → (1 ≤ (a2.length : Int)) → ((a2.length : Int) ≤ 30) → (1 ≤ a1) → (a1 ≤ 64) → (1 ≤ a0) → (a0 ≤ 8) → (¬ x0_2 < (a2.length : Int)) → (x1_1 ≤ ((a0 * (a1 + 1)) + a1)) → (¬ x2_1 < (a2.length : Int)) → (x1_1 = 0) → (x3_1 < a0) → (¬ x1_1 = ((x3_1 + 1) * (a1 + 1))) → (x1_1 = (((x3_1 + 1) * (a1 + 1)) + a1)) → (x3_0.length + (List.length [[D.i x1_1, D.i (((a2.length : Int) + 2) + (2 * x3_1))]])) * 16 ≤ 4294967296 ∧ (x3_0.length + (List.length [[D.i x1_1, D.i (((a2.length : Int) + 2) + (2 * x3_1))]])) ≤ 4294967296
  g52 : ∀ x0_0 x0_1 x0_2, I0 x0_0 x0_1 x0_2 → ∀ x1_0 x1_1, I1 x0_0 x0_1 x0_2 x1_0 x1_1 → ∀ x2_0 x2_1, I2 x0_0 x0_1 x0_2 x1_0 x1_1 x2_0 x2_1 → ∀ x3_0 x3_1, I3 x0_0 x0_1 x0_2 x1_0 x1_1 x2_0 x2_1 x3_0 x3_1 → (1 ≤ (a2.length : Int)) → ((a2.length : Int) ≤ 30) → (1 ≤ a1) → (a1 ≤ 64) → (1 ≤ a0) → (a0 ≤ 8) → (¬ x0_2 < (a2.length : Int)) → (x1_1 ≤ ((a0 * (a1 + 1)) + a1)) → (¬ x2_1 < (a2.length : Int)) → (x1_1 = 0) → (x3_1 < a0) → (¬ x1_1 = ((x3_1 + 1) * (a1 + 1))) → (x1_1 = (((x3_1 + 1) * (a1 + 1)) + a1)) → -9223372036854775808 ≤ (x3_1 + 1) ∧ (x3_1 + 1) ≤ 9223372036854775807
  n53 : ∀ x0_0 x0_1 x0_2, I0 x0_0 x0_1 x0_2 → ∀ x1_0 x1_1, I1 x0_0 x0_1 x0_2 x1_0 x1_1 → ∀ x2_0 x2_1, I2 x0_0 x0_1 x0_2 x1_0 x1_1 x2_0 x2_1 → ∀ x3_0 x3_1, I3 x0_0 x0_1 x0_2 x1_0 x1_1 x2_0 x2_1 x3_0 x3_1 → (1 ≤ (a2.length : Int)) → ((a2.length : Int) ≤ 30) → (1 ≤ a1) → (a1 ≤ 64) → (1 ≤ a0) → (a0 ≤ 8) → (¬ x0_2 < (a2.length : Int)) → (x1_1 ≤ ((a0 * (a1 + 1)) + a1)) → (¬ x2_1 < (a2.length : Int)) → (x1_1 = 0) → (x3_1 < a0) → (¬ x1_1 = ((x3_1 + 1) * (a1 + 1))) → (x1_1 = (((x3_1 + 1) * (a1 + 1)) + a1)) → I3 x0_0 x0_1 x0_2 x1_0 x1_1 x2_0 x2_1 (x3_0 ++ [[D.i x1_1, D.i (((a2.length : Int) + 2) + (2 * x3_1))]]) (x3_1 + 1) ∧ m3 x0_0 x0_1 x0_2 x1_0 x1_1 x2_0 x2_1 (x3_0 ++ [[D.i x1_1, D.i (((a2.length : Int) + 2) + (2 * x3_1))]]) (x3_1 + 1) < m3 x0_0 x0_1 x0_2 x1_0 x1_1 x2_0 x2_1 x3_0 x3_1
  g54 : ∀ x0_0 x0_1 x0_2, I0 x0_0 x0_1 x0_2 → ∀ x1_0 x1_1, I1 x0_0 x0_1 x0_2 x1_0 x1_1 → ∀ x2_0 x2_1, I2 x0_0 x0_1 x0_2 x1_0 x1_1 x2_0 x2_1 → ∀ x3_0 x3_1, I3 x0_0 x0_1 x0_2 x1_0 x1_1 x2_0 x2_1 x3_0 x3_1 → (1 ≤ (a2.length : Int)) → ((a2.length : Int) ≤ 30) → (1 ≤ a1) → (a1 ≤ 64) → (1 ≤ a0) → (a0 ≤ 8) → (¬ x0_2 < (a2.length : Int)) → (x1_1 ≤ ((a0 * (a1 + 1)) + a1)) → (¬ x2_1 < (a2.length : Int)) → (x1_1 = 0) → (x3_1 < a0) → (¬ x1_1 = ((x3_1 + 1) * (a1 + 1))) → (¬ x1_1 = (((x3_1 + 1) * (a1 + 1)) + a1)) → -9223372036854775808 ≤ (x3_1 + 1) ∧ (x3_1 + 1) ≤ 9223372036854775807
  n55 : ∀ x0_0 x0_1 x0_2, I0 x0_0 x0_1 x0_2 → ∀ x1_0 x1_1, I1 x0_0 x0_1 x0_2 x1_0 x1_1 → ∀ x2_0 x2_1, I2 x0_0 x0_1 x0_2 x1_0 x1_1 x2_0 x2_1 → ∀ x3_0 x3_1, I3 x0_0 x0_1 x0_2 x1_0 x1_1 x2_0 x2_1 x3_0 x3_1 → (1 ≤ (a2.length : Int)) → ((a2.length : Int) ≤ 30) → (1 ≤ a1) → (a1 ≤ 64) → (1 ≤ a0) → (a0 ≤ 8) → (¬ x0_2 < (a2.length : Int)) → (x1_1 ≤ ((a0 * (a1 + 1)) + a1)) → (¬ x2_1 < (a2.length : Int)) → (x1_1 = 0) → (x3_1 < a0) → (¬ x1_1 = ((x3_1 + 1) * (a1 + 1))) → (¬ x1_1 = (((x3_1 + 1) * (a1 + 1)) + a1)) → I3 x0_0 x0_1 x0_2 x1_0 x1_1 x2_0 x2_1 x3_0 (x3_1 + 1) ∧ m3 x0_0 x0_1 x0_2 x1_0 x1_1 x2_0 x2_1 x3_0 (x3_1 + 1) < m3 x0_0 x0_1 x0_2 x1_0 x1_1 x2_0 x2_1 x3_0 x3_1
  g56 : ∀ x0_0 x0_1 x0_2, I0 x0_0 x0_1 x0_2 → ∀ x1_0 x1_1, I1 x0_0 x0_1 x0_2 x1_0 x1_1 → ∀ x2_0 x2_1, I2 x0_0 x0_1 x0_2 x1_0 x1_1 x2_0 x2_1 → ∀ x3_0 x3_1, I3 x0_0 x0_1 x0_2 x1_0 x1_1 x2_0 x2_1 x3_0 x3_1 → (1 ≤ (a2.length : Int)) → ((a2.length : Int) ≤ 30) → (1 ≤ a1) → (a1 ≤ 64) → (1 ≤ a0) → (a0 ≤ 8) → (¬ x0_2 < (a2.length : Int)) → (x1_1 ≤ ((a0 * (a1 + 1)) + a1)) → (¬ x2_1 < (a2.length : Int)) → (x1_1 = 0) → (¬ x3_1 < a0) → -9223372036854775808 ≤ (x1_1 + 1) ∧ (x1_1 + 1) ≤ 9223372036854775807
  n57 : ∀ x0_0 x0_1 x0_2, I0 x0_0 x0_1 x0_2 → ∀ x1_0 x1_1, I1 x0_0 x0_1 x0_2 x1_0 x1_1 → ∀ x2_0 x2_1, I2 x0_0 x0_1 x0_2 x1_0 x1_1 x2_0 x2_1 → ∀ x3_0 x3_1, I3 x0_0 x0_1 x0_2 x1_0 x1_1 x2_0 x2_1 x3_0 x3_1 → (1 ≤ (a2.length : Int)) → ((a2.length : Int) ≤ 30) → (1 ≤ a1) → (a1 ≤ 64) → (1 ≤ a0) → (a0 ≤ 8) → (¬ x0_2 < (a2.length : Int)) → (x1_1 ≤ ((a0 * (a1 + 1)) + a1)) → (¬ x2_1 < (a2.length : Int)) → (x1_1 = 0) → (¬ x3_1 < a0) → I1 x0_0 x0_1 x0_2 x3_0 (x1_1 + 1) ∧ m1 x0_0 x0_1 x0_2 x3_0 (x1_1 + 1) < m1 x0_0 x0_1 x0_2 x1_0 x1_1
  i4 : ∀ x0_0 x0_1 x0_2, I0 x0_0 x0_1 x0_2 → ∀ x1_0 x1_1, I1 x0_0 x0_1 x0_2 x1_0 x1_1 → ∀ x2_0 x2_1, I2 x0_0 x0_1 x0_2 x1_0 x1_1 x2_0 x2_1 → (1 ≤ (a2.length : Int)) → ((a2.length : Int) ≤ 30) → (1 ≤ a1) → (a1 ≤ 64) → (1 ≤ a0) → (a0 ≤ 8) → (¬ x0_2 < (a2.length : Int)) → (x1_1 ≤ ((a0 * (a1 + 1)) + a1)) → (¬ x2_1 < (a2.length : Int)) → (¬ x1_1 = 0) → I4 x0_0 x0_1 x0_2 x1_0 x1_1 x2_0 x2_1 x2_0 0
  g59 : ∀ x0_0 x0_1 x0_2, I0 x0_0 x0_1 x0_2 → ∀ x1_0 x1_1, I1 x0_0 x0_1 x0_2 x1_0 x1_1 → ∀ x2_0 x2_1, I2 x0_0 x0_1 x0_2 x1_0 x1_1 x2_0 x2_1 → ∀ x4_0 x4_1, I4 x0_0 x0_1 x0_2 x1_0 x1_1 x2_0 x2_1 x4_0 x4_1 → (1 ≤ (a2.length : Int)) → ((a2.length : Int) ≤ 30) → (1 ≤ a1) → (a1 ≤ 64) → (1 ≤ a0) → (a0 ≤ 8) → (¬ x0_2 < (a2.length : Int)) → (x1_1 ≤ ((a0 * (a1 + 1)) + a1)) → (¬ x2_1 < (a2.length : Int)) → (¬ x1_1 = 0) → (x4_1 < a0) → -9223372036854775808 ≤ (x4_1 + 1) ∧ (x4_1 + 1) ≤ 9223372036854775807
  g60 : ∀ x0_0 x0_1 x0_2, I0 x0_0 x0_1 x0_2 → ∀ x1_0 x1_1, I1 x0_0 x0_1 x0_2 x1_0 x1_1 → ∀ x2_0 x2_1, I2 x0_0 x0_1 x0_2 x1_0 x1_1 x2_0 x2_1 → ∀ x4_0 x4_1, I4 x0_0 x0_1 x0_2 x1_0 x1_1 x2_0 x2_1 x4_0 x4_1 → (1 ≤ (a2.length : Int)) → ((a2.length : Int) ≤ 30) → (1 ≤ a1) → (a1 ≤ 64) → (1 ≤ a0) → (a0 ≤ 8) → (¬ x0_2 < (a2.length : Int)) → (x1_1 ≤ ((a0 * (a1 + 1)) + a1)) → (¬ x2_1 < (a2.length : Int)) → (¬ x1_1 = 0) → (x4_1 < a0) → -9223372036854775808 ≤ (a1 + 1) ∧ (a1 + 1) ≤ 9223372036854775807
  g61 : ∀ x0_0 x0_1 x0_2, I0 x0_0 x0_1 x0_2 → ∀ x1_0 x1_1, I1 x0_0 x0_1 x0_2 x1_0 x1_1 → ∀ x2_0 x2_1, I2 x0_0 x0_1 x0_2 x1_0 x1_1 x2_0 x2_1 → ∀ x4_0 x4_1, I4 x0_0 x0_1 x0_2 x1_0 x1_1 x2_0 x2_1 x4_0 x4_1 → (1 ≤ (a2.length : Int)) → ((a2.length : Int) ≤ 30) → (1 ≤ a1) → (a1 ≤ 64) → (1 ≤ a0) → (a0 ≤ 8) → (¬ x0_2 < (a2.length : Int)) → (x1_1 ≤ ((a0 * (a1 + 1)) + a1)) → (¬ x2_1 < (a2.length : Int)) → (¬ x1_1 = 0) → (x4_1 < a0) → -9223372036854775808 ≤ ((x4_1 + 1) * (a1 + 1)) ∧ ((x4_1 + 1) * (a1 + 1)) ≤ 9223372036854775807
  g62 : ∀ x0_0 x0_1 x0_2, I0 x0_0 x0_1 x0_2 → ∀ x1_0 x1_1, I1 x0_0 x0_1 x0_2 x1_0 x1_1 → ∀ x2_0 x2_1, I2 x0_0 x0_1 x0_2 x1_0 x1_1 x2_0 x2_1 → ∀ x4_0 x4_1, I4 x0_0 x0_1 x0_2 x1_0 x1_1 x2_0 x2_1 x4_0 x4_1 → (1 ≤ (a2.length : Int)) → ((a2.length : Int) ≤ 30) → (1 ≤ a1) → (a1 ≤ 64) → (1 ≤ a0) → (a0 ≤ 8) → (¬ x0_2 < (a2.length : Int)) → (x1_1 ≤ ((a0 * (a1 + 1)) + a1)) → (¬ x2_1 < (a2.length : Int)) → (¬ x1_1 = 0) → (x4_1 < a0) → (x1_1 = ((x4_1 + 1) * (a1 + 1))) → -9223372036854775808 ≤ ((a2.length : Int) + 1) ∧ ((a2.length : Int) + 1) ≤ 9223372036854775807
  g63 : ∀ x0_0 x0_1 x0_2, I0 x0_0 x0_1 x0_2 → ∀ x1_0 x1_1, I1 x0_0 x0_1 x0_2 x1_0 x1_1 → ∀ x2_0 x2_1, I2 x0_0 x0_1 x0_2 x1_0 x1_1 x2_0 x2_1 → ∀ x4_0 x4_1, I4 x0_0 x0_1 x0_2 x1_0 x1_1 x2_0 x2_1 x4_0 x4_1 → (1 ≤ (a2.length : Int)) → ((a2.length : Int) ≤ 30) → (1 ≤ a1) → (a1 ≤ 64) → (1 ≤ a0) → (a0 ≤ 8) → (¬ x0_2 < (a2.length : Int)) → (x1_1 ≤ ((a0 * (a1 + 1)) + a1)) → (¬ x2_1 < (a2.length : Int)) → (¬ x1_1 = 0) → (x4_1 < a0) → (x1_1 = ((x4_1 + 1) * (a1 + 1))) → -9223372036854775808 ≤ (2 * x4_1) ∧ (2 * x4_1) ≤ 9223372036854775807
  g64 : ∀ x0_0 x0_1 x0_2, I0 x0_0 x0_1 x0_2 → ∀ x1_0 x1_1, I1 x0_0 x0_1 x0_2 x1_0 x1_1 → ∀ x2_0 x2_1, I2 x0_0 x0_1 x0_2 x1_0 x1_1 x2_0 x2_1 → ∀ x4_0 x4_1, I4 x0_0 x0_1 x0_2 x1_0 x1_1 x2_0 x2_1 x4_0 x4_1 → (1 ≤ (a2.length : Int)) → ((a2.length : Int) ≤ 30) → (1 ≤ a1) → (a1 ≤ 64) → (1 ≤ a0) → (a0 ≤ 8) → (¬ x0_2 < (a2.length : Int)) → (x1_1 ≤ ((a0 * (a1 + 1)) + a1)) → (¬ x2_1 < (a2.length : Int)) → (¬ x1_1 = 0) → (x4_1 < a0) → (x1_1 = ((x4_1 + 1) * (a1 + 1))) → -9223372036854775808 ≤ (((a2.length : Int) + 1) + (2 * x4_1)) ∧ (((a2.length : Int) + 1) + (2 * x4_1)) ≤ 9223372036854775807
  g65 : ∀ x0_0 x0_1 x0_2, I0 x0_0 x0_1 x0_2 → ∀ x1_0 x1_1, I1 x0_0 x0_1 x0_2 x1_0 x1_1 → ∀ x2_0 x2_1, I2 x0_0 x0_1 x0_2 x1_0 x1_1 x2_0 x2_1 → ∀ x4_0 x4_1, I4 x0_0 x0_1 x0_2 x1_0 x1_1 x2_0 x2_1 x4_0 x4_1 → (1 ≤ (a2.length : Int)) → ((a2.length : Int) ≤ 30) → (1 ≤ a1) → (a1 ≤ 64) → (1 ≤ a0) → (a0 ≤ 8) → (¬ x0_2 < (a2.length : Int)) → (x1_1 ≤ ((a0 * (a1 + 1)) + a1)) → (¬ x2_1 < (a2.length : Int)) → (¬ x1_1 = 0) → (x4_1 < a0) → (x1_1 = ((x4_1 + 1) * (a1 + 1))) → (x4_0.length + (List.length [[D.i x1_1, D.i (((a2.length : Int) + 1) + (2 * x4_1))]])) * 16 ≤ 4294967296 ∧ (x4_0.length + (List.length [[D.i x1_1, D.i (((a2.length : Int) + 1) + (2 * x4_1))]])) ≤ 4294967296
  g66 : ∀ x0_0 x0_1 x0_2, I0 x0_0 x0_1 x0_2 → ∀ x1_0 x1_1, I1 x0_0 x0_1 x0_2 x1_0 x1_1 → ∀ x2_0 x2_1, I2 x0_0 x0_1 x0_2 x1_0 x1_1 x2_0 x2_1 → ∀ x4_0 x4_1, I4 x0_0 x0_1 x0_2 x1_0 x1_1 x2_0 x2_1 x4_0 x4_1 → (1 ≤ (a2.length : Int)) → ((a2.length : Int) ≤ 30) → (1 ≤ a1) → (a1 ≤ 64) → (1 ≤ a0) → (a0 ≤ 8) → (¬ x0_2 < (a2.length : Int)) → (x1_1 ≤ ((a0 * (a1 + 1)) + a1)) → (¬ x2_1 < (a2.length : Int)) → (¬ x1_1 = 0) → (x4_1 < a0) → (x1_1 = ((x4_1 + 1) * (a1 + 1))) → -9223372036854775808 ≤ (((x4_1 + 1) * (a1 + 1)) + a1) ∧ (((x4_1 + 1) * (a1 + 1)) + a1) ≤ 9223372036854775807
  g67 : ∀ x0_0 x0_1 x0_2, I0 x0_0 x0_1 x0_2 → ∀ x1_0 x1_1, I1 x0_0 x0_1 x0_2 x1_0 x1_1 → ∀ x2_0 x2_1, I2 x0_0 x0_1 x0_2 x1_0 x1_1 x2_0 x2_1 → ∀ x4_0 x4_1, I4 x0_0 x0_1 x0_2 x1_0 x1_1 x2_0 x2_1 x4_0 x4_1 → (1 ≤ (a2.length : Int)) → ((a2.length : Int) ≤ 30) → (1 ≤ a1) → (a1 ≤ 64) → (1 ≤ a0) → (a0 ≤ 8) → (¬ x0_2 < (a2.length : Int)) → (x1_1 ≤ ((a0 * (a1 + 1)) + a1)) → (¬ x2_1 < (a2.length : Int)) → (¬ x1_1 = 0) → (x4_1 < a0) → (x1_1 = ((x4_1 + 1) * (a1 + 1))) → (x1_1 = (((x4_1 + 1) * (a1 + 1)) + a1)) → -9223372036854775808 ≤ ((a2.length : Int) + 2) ∧ ((a2.length : Int) + 2) ≤ 9223372036854775807
  g68 : ∀ x0_0 x0_1 x0_2, I0 x0_0 x0_1 x0_2 → ∀ x1_0 x1_1, I1 x0_0 x0_1 x0_2 x1_0 x1_1 → ∀ x2_0 x2_1, I2 x0_0 x0_1 x0_2 x1_0 x1_1 x2_0 x2_1 → ∀ x4_0 x4_1, I4 x0_0 x0_1 x0_2 x1_0 x1_1 x2_0 x2_1 x4_0 x4_1 → (1 ≤ (a2.length : Int)) → ((a2.length : Int) ≤ 30) → (1 ≤ a1) → (a1 ≤ 64) → (1 ≤ a0) → (a0 ≤ 8) → (¬ x0_2 < (a2.length : Int)) → (x1_1 ≤ ((a0 * (a1 + 1)) + a1)) → (¬ x2_1 < (a2.length : Int)) → (¬ x1_1 = 0) → (x4_1 < a0) → (x1_1 = ((x4_1 + 1) * (a1 + 1))) → (x1_1 = (((x4_1 + 1) * (a1 + 1)) + a1)) → -9223372036854775808 ≤ (2 * x4_1) ∧ (2 * x4_1) ≤ 9223372036854775807
  g69 : ∀ x0_0 x0_1 x0_2, I0 x0_0 x0_1 x0_2 → ∀ x1_0 x1_1, I1 x0_0 x0_1 x0_2 x1_0 x1_1 → ∀ x2_0 x2_1, I2 x0_0 x0_1 x0_2 x1_0 x1_1 x2_0 x2_1 → ∀ x4_0 x4_1, I4 x0_0 x0_1 x0_2 x1_0 x1_1 x2_0 x2_1 x4_0 x4_1 → (1 ≤ (a2.length : Int)) → ((a2.length : Int) ≤ 30) → (1 ≤ a1) → (a1 ≤ 64) → (1 ≤ a0) → (a0 ≤ 8) → (¬ x0_2 < (a2.length : Int)) → (x1_1 ≤ ((a0 * (a1 + 1)) + a1)) → (¬ x2_1 < (a2.length : Int)) → (¬ x1_1 = 0) → (x4_1 < a0) → (x1_1 = ((x4_1 + 1) * (a1 + 1))) → (x1_1 = (((x4_1 + 1) * (a1 + 1)) + a1)) → -9223372036854775808 ≤ (((a2.length : Int) + 2) + (2 * x4_1)) ∧ (((a2.length : Int) + 2) + (2 * x4_1)) ≤ 9223372036854775807
  g70 : ∀ x0_0 x0_1 x0_2, I0 x0_0 x0_1 x0_2 → ∀ x1_0 x1_1, I1 x0_0 x0_1 x0_2 x1_0 x1_1 → ∀ x2_0 x2_1, I2 x0_0 x0_1 x0_2 x1_0 x1_1 x2_0 x2_1 → ∀ x4_0 x4_1, I4 x0_0 x0_1 x0_2 x1_0 x1_1 x2_0 x2_1 x4_0 x4_1 → (1 ≤ (a2.length : Int)) → ((a2.length : Int) ≤ 30) → (1 ≤ a1) → (a1 ≤ 64) → (1 ≤ a0) → (a0 ≤ 8) → (¬ x0_2 < (a2.length : Int)) → (x1_1 ≤ ((a0 * (a1 + 1)) + a1)) → (¬ x2_1 < (a2.length : Int)) → (¬ x1_1 = 0) → (x4_1 < a0) → (x1_1 = ((x4_1 + 1) * (a1 + 1))) → (x1_1 = (((x4_1 + 1) * (a1 + 1)) + a1)) → ((List.length (x4_0 ++ [[D.i x1_1, D.i (((a2.length : Int) + 1) + (2 * x4_1))]])) + (List.length [[D.i x1_1, D.i (((a2.length : Int) + 2) + (2 * x4_1))]])) * 16 ≤ 4294967296 ∧ ((List.length (x4_0 ++ [[D.i x1_1, D.i (((a2.length : Int) + 1) + (2 * x4_1))]])) + (List.length [[D.i x1_1, D.i (((a2.length : Int) + 2) + (2 * x4_1))]])) ≤ 4294967296
  g71 : ∀ x0_0 x0_1 x0_2, I0 x0_0 x0_1 x0_2 → ∀ x1_0 x1_1, I1 x0_0 x0_1 x0_2 x1_0 x1_1 → ∀ x2_0 x2_1, I2 x0_0 x0_1 x0_2 x1_0 x1_1 x2_0 x2_1 → ∀ x4_0 x4_1, I4 x0_0 x0_1 x0_2 x1_0 x1_1 x2_0 x2_1 x4_0 x4_1 → (1 ≤ (a2.length : Int)) → ((a2.length : Int) ≤ 30) → (1 ≤ a1) → (a1 ≤ 64) → (1 ≤ a0) → (a0 ≤ 8) → (¬ x0_2 < (a2.length : Int)) → (x1_1 ≤ ((a0 * (a1 + 1)) + a1)) → (¬ x2_1 < (a2.length : Int)) → (¬ x1_1 = 0) → (x4_1 < a0) → (x1_1 = ((x4_1 + 1) * (a1 + 1))) → (x1_1 = (((x4_1 + 1) * (a1 + 1)) + a1)) → -9223372036854775808 ≤ (x4_1 + 1) ∧ (x4_1 + 1) ≤ 9223372036854775807
  n72 : ∀ x0_0 x0_1 x0_2, I0 x0_0 x0_1 x0_2 → ∀ x1_0 x1_1, I1 x0_0 x0_1 x0_2 x1_0 x1_1 → ∀ x2_0 x2_1, I2 x0_0 x0_1 x0_2 x1_0 x1_1 x2_0 x2_1 → ∀ x4_0 x4_1, I4 x0_0 x0_1 x0_2 x1_0 x1_1 x2_0 x2_1 x4_0 x4_1 → (1 ≤ (a2.length : Int)) → ((a2.length : Int) ≤ 30) → (1 ≤ a1) → (a1 ≤ 64) → (1 ≤ a0) → (a0 ≤ 8) → (¬ x0_2 < (a2.length : Int)) → (x1_1 ≤ ((a0 * (a1 + 1)) + a1)) → (¬ x2_1 < (a2.length : Int)) → (¬ x1_1 = 0) → (x4_1 < a0) → (x1_1 = ((x4_1 + 1) * (a1 + 1))) → (x1_1 = (((x4_1 + 1) * (a1 + 1)) + a1)) → I4 x0_0 x0_1 x0_2 x1_0 x1_1 x2_0 x2_1 ((x4_0 ++ [[D.i x1_1, D.i (((a2.length : Int) + 1) + (2 * x4_1))]]) ++ [[D.i x1_1, D.i (((a2.length : Int) + 2) + (2 * x4_1))]]) (x4_1 + 1) ∧ m4 x0_0 x0_1 x0_2 x1_0 x1_1 x2_0 x2_1 ((x4_0 ++ [[D.i x1_1, D.i (((a2.length : Int) + 1) + (2 * x4_1))]]) ++ [[D.i x1_1, D.i (((a2.length : Int) + 2) + (2 * x4_1))]]) (x4_1 + 1) < m4 x0_0 x0_1 x0_2 x1_0 x1_1 x2_0 x2_1 x4_0 x4_1
  g73 : ∀ x0_0 x0_1 x0_2, I0 x0_0 x0_1 x0_2 → ∀ x1_0 x1_1, I1 x0_0 x0_1 x0_2 x1_0 x1_1 → ∀ x2_0 x2_1, I2 x0_0 x0_1 x0_2 x1_0 x1_1 x2_0 x2_1 → ∀ x4_0 x4_1, I4 x0_0 x0_1 x0_2 x1_0 x1_1 x2_0 x2_1 x4_0 x4_1 → (1 ≤ (a2.length : Int)) → ((a2.length : Int) ≤ 30) → (1 ≤ a1) → (a1 ≤ 64) → (1 ≤ a0) → (a0 ≤ 8) → (¬ x0_2 < (a2.length : Int)) → (x1_1 ≤ ((a0 * (a1 + 1)) + a1)) → (¬ x2_1 < (a2.length : Int)) → (¬ x1_1 = 0) → (x4_1 < a0) → (x1_1 = ((x4_1 + 1) * (a1 + 1))) → (¬ x1_1 = (((x4_1 + 1) * (a1 + 1)) + a1)) → -9223372036854775808 ≤ (x4_1 + 1) ∧ (x4_1 + 1) ≤ 9223372036854775807
  n74 : ∀ x0_0 x0_1 x0_2, I0 x0_0 x0_1 x0_2 → ∀ x1_0 x1_1, I1 x0_0 x0_1 x0_2 x1_0 x1_1 → ∀ x2_0 x2_1, I2 x0_0 x0_1 x0_2 x1_0 x1_1 x2_0 x2_1 → ∀ x4_0 x4_1, I4 x0_0 x0_1 x0_2 x1_0 x1_1 x2_0 x2_1 x4_0 x4_1 → (1 ≤ (a2.length : Int)) → ((a2.length : Int) ≤ 30) → (1 ≤ a1) → (a1 ≤ 64) → (1 ≤ a0) → (a0 ≤ 8) → (¬ x0_2 < (a2.length : Int)) → (x1_1 ≤ ((a0 * (a1 + 1)) + a1)) → (¬ x2_1 < (a2.length : Int)) → (¬ x1_1 = 0) → (x4_1 < a0) → (x1_1 = ((x4_1 + 1) * (a1 + 1))) → (¬ x1_1 = (((x4_1 + 1) * (a1 + 1)) + a1)) → I4 x0_0 x0_1 x0_2 x1_0 x1_1 x2_0 x2_1 (x4_0 ++ [[D.i x1_1, D.i (((a2.length : Int) + 1) + (2 * x4_1))]]) (x4_1 + 1) ∧ m4 x0_0 x0_1 x0_2 x1_0 x1_1 x2_0 x2_1 (x4_0 ++ [[D.i x1_1, D.i (((a2.length : Int) + 1) + (2 * x4_1))]]) (x4_1 + 1) < m4 x0_0 x0_1 x0_2 x1_0 x1_1 x2_0 x2_1 x4_0 x4_1
  g75 : ∀ x0_0 x0_1 x0_2, I0 x0_0 x0_1 x0_2 → ∀ x1_0 x1_1, I1 x0_0 x0_1 x0_2 x1_0 x1_1 → ∀ x2_0 x2_1, I2 x0_0 x0_1 x0_2 x1_0 x1_1 x2_0 x2_1 → ∀ x4_0 x4_1, I4 x0_0 x0_1 x0_2 x1_0 x1_1 x2_0 x2_1 x4_0 x4_1 → (1 ≤ (a2.length : Int)) → ((a2.length : Int) ≤ 30) → (1 ≤ a1) → (a1 ≤ 64) → (1 ≤ a0) → (a0 ≤ 8) → (¬ x0_2 < (a2.length : Int)) → (x1_1 ≤ ((a0 * (a1 + 1)) + a1)) → (¬ x2_1 < (a2.length : Int)) → (¬ x1_1 = 0) → (x4_1 < a0) → (¬ x1_1 = ((x4_1 + 1) * (a1 + 1))) → -9223372036854775808 ≤ (((x4_1 + 1) * (a1 + 1)) + a1) ∧ (((x4_1 + 1) * (a1 + 1)) + a1) ≤ 9223372036854775807
  g76 : ∀ x0_0 x0_1 x0_2, I0 x0_0 x0_1 x0_2 → ∀ x1_0 x1_1, I1 x0_0 x0_1 x0_2 x1_0 x1_1 → ∀ x2_0 x2_1, I2 x0_0 x0_1 x0_2 x1_0 x1_1 x2_0 x2_1 → ∀ x4_0 x4_1, I4 x0_0 x0_1 x0_2 x1_0 x1_1 x2_0 x2_1 x4_0 x4_1 → (1 ≤ (a2.length : Int)) → ((a2.length : Int) ≤ 30) → (1 ≤ a1) → (a1 ≤ 64) → (1 ≤ a0) → (a0 ≤ 8) → (¬ x0_2 < (a2.length : Int)) → (x1_1 ≤ ((a0 * (a1 + 1)) + a1)) → (¬ x2_1 < (a2.length : Int)) → (¬ x1_1 = 0) → (x4_1 < a0) → (¬ x1_1 = ((x4_1 + 1) * (a1 + 1))) → (x1_1 = (((x4_1 + 1) * (a1 + 1)) + a1)) → -9223372036854775808 ≤ ((a2.length : Int) + 2) ∧ ((a2.length : Int) + 2) ≤ 9223372036854775807
  g77 : ∀ x0_0 x0_1 x0_2, I0 x0_0 x0_1 x0_2 → ∀ x1_0 x1_1, I1 x0_0 x0_1 x0_2 x1_0 x1_1 → ∀ x2_0 x2_1, I2 x0_0 x0_1 x0_2 x1_0 x1_1 x2_0 x2_1 → ∀ x4_0 x4_1, I4 x0_0 x0_1 x0_2 x1_0 x1_1 x2_0 x2_1 x4_0 x4_1 → (1 ≤ (a2.length : Int)) → ((a2.length : Int) ≤ 30) → (1 ≤ a1) → (a1 ≤ 64) → (1 ≤ a0) → (a0 ≤ 8) → (¬ x0_2 < (a2.length : Int)) → (x1_1 ≤ ((a0 * (a1 + 1)) + a1)) → (¬ x2_1 < (a2.length : Int)) → (¬ x1_1 = 0) → (x4_1 < a0) → (¬ x1_1 = ((x4_1 + 1) * (a1 + 1))) → (x1_1 = (((x4_1 + 1) * (a1 + 1)) + a1)) → -9223372036854775808 ≤ (2 * x4_1) ∧ (2 * x4_1) ≤ 9223372036854775807
  g78 : ∀ x0_0 x0_1 x0_2, I0 x0_0 x0_1 x0_2 → ∀ x1_0 x1_1, I1 x0_0 x0_1 x0_2 x1_0 x1_1 → ∀ x2_0 x2_1, I2 x0_0 x0_1 x0_2 x1_0 x1_1 x2_0 x2_1 → ∀ x4_0 x4_1, I4 x0_0 x0_1 x0_2 x1_0 x1_1 x2_0 x2_1 x4_0 x4_1 → (1 ≤ (a2.length : Int)) → ((a2.length : Int) ≤ 30) → (1 ≤ a1) → (a1 ≤ 64) → (1 ≤ a0) → (a0 ≤ 8) → (¬ x0_2 < (a2.length : Int)) → (x1_1 ≤ ((a0 * (a1 + 1)) + a1)) → (¬ x2_1 < (a2.length : Int)) → (¬ x1_1 = 0) → (x4_1 < a0) → (¬ x1_1 = ((x4_1 + 1) * (a1 + 1))) → (x1_1 = (((x4_1 + 1) * (a1 + 1)) + a1)) → -9223372036854775808 ≤ (((a2.length : Int) + 2) + (2 * x4_1)) ∧ (((a2.length : Int) + 2) + (2 * x4_1)) ≤ 9223372036854775807
  g79 : ∀ x0_0 x0_1 x0_2, I0 x0_0 x0_1 x0_2 → ∀ x1_0 x1_1, I1 x0_0 x0_1 x0_2 x1_0 x1_1 → ∀ x2_0 x2_1, I2 x0_0 x0_1 x0_2 x1_0 x1_1 x2_0 x2_1 → ∀ x4_0 x4_1, I4 x0_0 x0_1 x0_2 x1_0 x1_1 x2_0 x2_1 x4_0 x4_1 → (1 ≤ (a2.length : Int)) → ((a2.length : Int) ≤ 30) → (1 ≤ a1) → (a1 ≤ 64) → (1 ≤ a0) → (a0 ≤ 8) → (¬ x0_2 < (a2.length : Int)) → (x1_1 ≤ ((a0 * (a1 + 1)) + a1)) → (¬ x2_1 < (a2.length : Int)) → (¬ x1_1 = 0) → (x4_1 < a0) → (¬ x1_1 = ((x4_1 + 1) * (a1 + 1))) → (x1_1 = (((x4_1 + 1) * (a1 + 1)) + a1)) → (x4_0.length + (List.length [[D.i x1_1, D.i (((a2.length : Int) + 2) + (2 * x4_1))]])) * 16 ≤ 4294967296 ∧ (x4_0.length + (List.length [[D.i x1_1, D.i (((a2.length : Int) + 2) + (2 * x4_1))]])) ≤ 4294967296
  g80 : ∀ x0_0 x0_1 x0_2, I0 x0_0 x0_1 x0_2 → ∀ x1_0 x1_1, I1 x0_0 x0_1 x0_2 x1_0 x1_1 → ∀ x2_0 x2_1, I2 x0_0 x0_1 x0_2 x1_0 x1_1 x2_0 x2_1 → ∀ x4_0 x4_1, I4 x0_0 x0_1 x0_2 x1_0 x1_1 x2_0 x2_1 x4_0 x4_1 → (1 ≤ (a2.length : Int)) → ((a2.length : Int) ≤ 30) → (1 ≤ a1) → (a1 ≤ 64) → (1 ≤ a0) → (a0 ≤ 8) → (¬ x0_2 < (a2.length : Int)) → (x1_1 ≤ ((a0 * (a1 + 1)) + a1)) → (¬ x2_1 < (a2.length : Int)) → (¬ x1_1 = 0) → (x4_1 < a0) → (¬ x1_1 = ((x4_1 + 1) * (a1 + 1))) → (x1_1 = (((x4_1 + 1) * (a1 + 1)) + a1)) → -9223372036854775808 ≤ (x4_1 + 1) ∧ (x4_1 + 1) ≤ 9223372036854775807
  n81 : ∀ x0_0 x0_1 x0_2, I0 x0_0 x0_1 x0_2 → ∀ x1_0 x1_1, I1 x0_0 x0_1 x0_2 x1_0 x1_1 → ∀ x2_0 x2_1, I2 x0_0 x0_1 x0_2 x1_0 x1_1 x2_0 x2_1 → ∀ x4_0 x4_1, I4 x0_0 x0_1 x0_2 x1_0 x1_1 x2_0 x2_1 x4_0 x4_1 → (1 ≤ (a2.length : Int)) → ((a2.length : Int) ≤ 30) → (1 ≤ a1) → (a1 ≤ 64) → (1 ≤ a0) → (a0 ≤ 8) → (¬ x0_2 < (a2.length : Int)) → (x1_1 ≤ ((a0 * (a1 + 1)) + a1)) → (¬ x2_1 < (a2.length : Int)) → (¬ x1_1 = 0) → (x4_1 < a0) → (¬ x1_1 = ((x4_1 + 1) * (a1 + 1))) → (x1_1 = (((x4_1 + 1) * (a1 + 1)) + a1)) → I4 x0_0 x0_1 x0_2 x1_0 x1_1 x2_0 x2_1 (x4_0 ++ [[D.i x1_1, D.i (((a2.length : Int) + 2) + (2 * x4_1))]]) (x4_1 + 1) ∧ m4 x0_0 x0_1 x0_2 x1_0 x1_1 x2_0 x2_1 (x4_0 ++ [[D.i x1_1, D.i (((a2.length : Int) + 2) + (2 * x4_1))]]) (x4_1 + 1) < m4 x0_0 x0_1 x0_2 x1_0 x1_1 x2_0 x2_1 x4_0 x4_1
  g82 : ∀ x0_0 x0_1 x0_2, I0 x0_0 x0_1 x0_2 → ∀ x1_0 x1_1, I1 x0_0 x0_1 x0_2 x1_0 x1_1 → ∀ x2_0 x2_1, I2 x0_0 x0_1 x0_2 x1_0 x1_1 x2_0 x2_1 → ∀ x4_0 x4_1, I4 x0_0 x0_1 x0_2 x1_0 x1_1 x2_0 x2_1 x4_0 x4_1 → (1 ≤ (a2.length : Int)) → ((a2.length : Int) ≤ 30) → (1 ≤ a1) → (a1 ≤ 64) → (1 ≤ a0) → (a0 ≤ 8) → (¬ x0_2 < (a2.length : Int)) → (x1_1 ≤ ((a0 * (a1 + 1)) + a1)) → (¬ x2_1 < (a2.length : Int)) → (¬ x1_1 = 0) → (x4_1 < a0) → (¬ x1_1 = ((x4_1 + 1) * (a1 + 1))) → (¬ x1_1 = (((x4_1 + 1) * (a1 + 1)) + a1)) → -9223372036854775808 ≤ (x4_1 + 1) ∧ (x4_1 + 1) ≤ 9223372036854775807
  n83 : ∀ x0_0 x0_1 x0_2, I0 x0_0 x0_1 x0_2 → ∀ x1_0 x1_1, I1 x0_0 x0_1 x0_2 x1_0 x1_1 → ∀ x2_0 x2_1, I2 x0_0 x0_1 x0_2 x1_0 x1_1 x2_0 x2_1 → ∀ x4_0 x4_1, I4 x0_0 x0_1 x0_2 x1_0 x1_1 x2_0 x2_1 x4_0 x4_1 → (1 ≤ (a2.length : Int)) → ((a2.length : Int) ≤ 30) → (1 ≤ a1) → (a1 ≤ 64) → (1 ≤ a0) → (a0 ≤ 8) → (¬ x0_2 < (a2.length : Int)) → (x1_1 ≤ ((a0 * (a1 + 1)) + a1)) → (¬ x2_1 < (a2.length : Int)) → (¬ x1_1 = 0) → (x4_1 < a0) → (¬ x1_1 = ((x4_1 + 1) * (a1 + 1))) → (¬ x1_1 = (((x4_1 + 1) * (a1 + 1)) + a1)) → I4 x0_0 x0_1 x0_2 x1_0 x1_1 x2_0 x2_1 x4_0 (x4_1 + 1) ∧ m4 x0_0 x0_1 x0_2 x1_0 x1_1 x2_0 x2_1 x4_0 (x4_1 + 1) < m4 x0_0 x0_1 x0_2 x1_0 x1_1 x2_0 x2_1 x4_0 x4_1
  g84 : ∀ x0_0 x0_1 x0_2, I0 x0_0 x0_1 x0_2 → ∀ x1_0 x1_1, I1 x0_0 x0_1 x0_2 x1_0 x1_1 → ∀ x2_0 x2_1, I2 x0_0 x0_1 x0_2 x1_0 x1_1 x2_0 x2_1 → ∀ x4_0 x4_1, I4 x0_0 x0_1 x0_2 x1_0 x1_1 x2_0 x2_1 x4_0 x4_1 → (1 ≤ (a2.length : Int)) → ((a2.length : Int) ≤ 30) → (1 ≤ a1) → (a1 ≤ 64) → (1 ≤ a0) → (a0 ≤ 8) → (¬ x0_2 < (a2.length : Int)) → (x1_1 ≤ ((a0 * (a1 + 1)) + a1)) → (¬ x2_1 < (a2.length : Int)) → (¬ x1_1 = 0) → (¬ x4_1 < a0) → -9223372036854775808 ≤ (x1_1 + 1) ∧ (x1_1 + 1) ≤ 9223372036854775807
  n85 : ∀ x0_0 x0_1 x0_2, I0 x0_0 x0_1 x0_2 → ∀ x1_0 x1_1, I1 x0_0 x0_1 x0_2 x1_0 x1_1 → ∀ x2_0 x2_1, I2 x0_0 x0_1 x0_2 x1_0 x1_1 x2_0 x2_1 → ∀ x4_0 x4_1, I4 x0_0 x0_1 x0_2 x1_0 x1_1 x2_0 x2_1 x4_0 x4_1 → (1 ≤ (a2.length : Int)) → ((a2.length : Int) ≤ 30) → (1 ≤ a1) → (a1 ≤ 64) → (1 ≤ a0) → (a0 ≤ 8) → (¬ x0_2 < (a2.length : Int)) → (x1_1 ≤ ((a0 * (a1 + 1)) + a1)) → (¬ x2_1 < (a2.length : Int)) → (¬ x1_1 = 0) → (¬ x4_1 < a0) → I1 x0_0 x0_1 x0_2 x4_0 (x1_1 + 1) ∧ m1 x0_0 x0_1 x0_2 x4_0 (x1_1 + 1) < m1 x0_0 x0_1 x0_2 x1_0 x1_1
  g86 : ∀ x0_0 x0_1 x0_2, I0 x0_0 x0_1 x0_2 → ∀ x1_0 x1_1, I1 x0_0 x0_1 x0_2 x1_0 x1_1 → (1 ≤ (a2.length : Int)) → ((a2.length : Int) ≤ 30) → (1 ≤ a1) → (a1 ≤ 64) → (1 ≤ a0) → (a0 ≤ 8) → (¬ x0_2 < (a2.length : Int)) → (¬ x1_1 ≤ ((a0 * (a1 + 1)) + a1)) → R 0 0 = D.l x1_0
  g87 : ∀ x0_0 x0_1 x0_2, I0 x0_0 x0_1 x0_2 → ∀ x1_0 x1_1, I1 x0_0 x0_1 x0_2 x1_0 x1_1 → (1 ≤ (a2.length : Int)) → ((a2.length : Int) ≤ 30) → (1 ≤ a1) → (a1 ≤ 64) → (1 ≤ a0) → (a0 ≤ 8) → (¬ x0_2 < (a2.length : Int)) → (¬ x1_1 ≤ ((a0 * (a1 + 1)) + a1)) → R 1 0 = D.i 0
  g88 : (1 ≤ (a2.length : Int)) → ((a2.length : Int) ≤ 30) → (1 ≤ a1) → (a1 ≤ 64) → (¬ 1 ≤ a0) → R 0 0 = D.l []
  g89 : (1 ≤ (a2.length : Int)) → ((a2.length : Int) ≤ 30) → (1 ≤ a1) → (a1 ≤ 64) → (¬ 1 ≤ a0) → R 1 0 = D.i 3
  g90 : (1 ≤ (a2.length : Int)) → ((a2.length : Int) ≤ 30) → (¬ 1 ≤ a1) → R 0 0 = D.l []
  g91 : (1 ≤ (a2.length : Int)) → ((a2.length : Int) ≤ 30) → (¬ 1 ≤ a1) → R 1 0 = D.i 3
  g92 : (¬ 1 ≤ (a2.length : Int)) → R 0 0 = D.l []
  g93 : (¬ 1 ≤ (a2.length : Int)) → R 1 0 = D.i 3
end HX

namespace HX
open Go Go.Proofs CX

def tickX (t : Int) : Rows → Int → Rows
  | [], _ => []
  | r :: l, i => if t ≤ wI r then [.i t, .i i] :: tickX t l (i + 1) else tickX t l (i + 1)
def tks (x : Rows) : Int → Nat → Rows
  | _, 0 => []
  | t, c + 1 => tickX t x 0 ++ tks x (t + 1) c
def rels (n m : Int) : Nat → Int → Rows
  | 0, _ => []
  | c + 1, k => [[.i ((k + 1) * (m + 1)), .i (n + 1 + 2 * k)], [.i ((k + 1) * (m + 1) + m), .i (n + 2 + 2 * k)]] ++ rels n m c (k + 1)
def frsL (ly m : Int) (x : Rows) : Rows := [[.i 0, .i ((x.length : Nat) : Int)]] ++ tks x 1 m.toNat ++ rels ((x.length : Nat) : Int) m ly.toNat 0
def frsOk (ly m : Int) (x : Rows) : Prop := (1 ≤ x.length ∧ x.length ≤ 30) ∧ (1 ≤ m ∧ m ≤ 64) ∧ 1 ≤ ly ∧ ly ≤ 8
open Classical in
noncomputable def evL (ly m : Int) (x : Rows) : Rows := if frsOk ly m x then (if okX m x = true then frsL ly m x else []) else []
open Classical in
noncomputable def evE (ly m : Int) (x : Rows) : Int := if frsOk ly m x then (if okX m x = true then 0 else 3) else 3

theorem tickX_len (t : Int) : ∀ (l : Rows) (i : Int), (tickX t l i).length ≤ l.length
  | [], _ => by simp [tickX]
  | r :: l, i => by
    have := tickX_len t l (i + 1)
    simp only [tickX]
    split <;> simp <;> omega
theorem tickX_yes {t : Int} {l : Rows} {q : Nat} (hq : q < l.length) (h : t ≤ wI (l.getD q [])) : tickX t (l.drop q) q = [.i t, .i (q : Int)] :: tickX t (l.drop (q + 1)) ((q : Int) + 1) := by
  rw [drop_row hq]; simp only [tickX, if_pos h]
theorem tickX_no {t : Int} {l : Rows} {q : Nat} (hq : q < l.length) (h : ¬ t ≤ wI (l.getD q [])) : tickX t (l.drop q) q = tickX t (l.drop (q + 1)) ((q : Int) + 1) := by
  rw [drop_row hq]; simp only [tickX, if_neg h]
theorem tickX_none {t : Int} : ∀ {l : Rows} {i : Int}, (∀ r ∈ l, wI r < t) → tickX t l i = []
  | [], _, _ => rfl
  | r :: l, i, h => by
    have := h r (.head _)
    simp only [tickX, if_neg (show ¬ t ≤ wI r by omega)]
    exact tickX_none fun r hr => h r (.tail _ hr)

theorem hold_t3 {fn : Nat → List (List D) → Nat → Nat → D} {f : Nat} (hf : fn f = holdRes) (x lo hi x' lo' hi' y ly hy : Int) : ((fn f [[.l [[.i x, .i lo, .i hi], [.i x', .i lo', .i hi'], [.i y, .i ly, .i hy]]]] 0 0).boo = true) = ((lo ≤ x ∧ x ≤ hi) ∧ (lo' ≤ x' ∧ x' ≤ hi') ∧ ly ≤ y ∧ y ≤ hy) := by
  rw [hf]; simp [holdRes, D.boo, within, D.int]
theorem hold_f3 {fn : Nat → List (List D) → Nat → Nat → D} {f : Nat} (hf : fn f = holdRes) (x lo hi x' lo' hi' y ly hy : Int) : ((fn f [[.l [[.i x, .i lo, .i hi], [.i x', .i lo', .i hi'], [.i y, .i ly, .i hy]]]] 0 0).boo = false) = ¬ ((lo ≤ x ∧ x ≤ hi) ∧ (lo' ≤ x' ∧ x' ≤ hi') ∧ ly ≤ y ∧ y ≤ hy) := by
  rw [hf]; simp only [holdRes, D.boo, List.all_cons, List.all_nil, within, List.getD_cons_zero, List.getD_cons_succ, D.int, Bool.and_true, Bool.and_eq_false_iff, decide_eq_false_iff_not]
  apply propext; omega
theorem frsOk_iff (ly m : Int) (x : Rows) : ((1 ≤ ((x.length : Nat) : Int) ∧ ((x.length : Nat) : Int) ≤ 30) ∧ (1 ≤ m ∧ m ≤ 64) ∧ 1 ≤ ly ∧ ly ≤ 8) = frsOk ly m x := by
  unfold frsOk; apply propext; omega
theorem mul_bd2 {k m : Int} (h0 : 0 ≤ k) (h1 : k ≤ 9) (h2 : 1 ≤ m) (h3 : m ≤ 64) : 0 ≤ k * (m + 1) ∧ k * (m + 1) ≤ 585 := by
  have e1 := Int.mul_le_mul_of_nonneg_right h1 (show 0 ≤ m + 1 by omega)
  have e2 := Int.mul_nonneg h0 (show 0 ≤ m + 1 by omega)
  omega

theorem law41 {pre : Nat → List (List D) → Prop} {fn : Nat → List (List D) → Nat → Nat → D} (hp : pre 51 = fun _ => True) (hf : fn 51 = holdRes) (hp79 : pre 79 = fun _ => True) (hf79 : ∀ x m, fn 79 [[.l x], [.i m]] 0 0 = .b (okX m x))
    {a0 a1 : Int} {a2 : Rows} {R : Nat → Nat → D} (hR0 : R 0 0 = .l (evL a0 a1 a2)) (hR1 : R 1 0 = .i (evE a0 a1 a2)) :
    V41 pre fn a0 a1 a2 R (fun o t => ∃ c : Nat, t + (c : Int) = a1 + 1 ∧ 1 ≤ t ∧ ((o.length : Nat) : Int) ≤ 1 + 30 * t ∧ o ++ tks a2 t c ++ rels ((a2.length : Nat) : Int) a1 a0.toNat 0 = frsL a0 a1 a2) (fun _ t => (a1 + 1 - t).toNat)
      (fun o0 t o i => ∃ q : Nat, i = q ∧ q ≤ a2.length ∧ o.length ≤ o0.length + q ∧ o ++ tickX t (a2.drop q) q = o0 ++ tickX t a2 0) (fun _ _ _ i => (a2.length - i).toNat)
      (fun _ _ o k => ∃ c : Nat, k + (c : Int) = a0 ∧ 0 ≤ k ∧ ((o.length : Nat) : Int) ≤ 5000 + 2 * k ∧ o ++ rels ((a2.length : Nat) : Int) a1 c k = frsL a0 a1 a2) (fun _ _ _ k => (a0 - k).toNat) := by
  have hbool : ∀ b : Bool, (D.b b).boo = b := fun _ => rfl
  constructor
  case g0 => rw [hp]; trivial
  case g1 => intro h; rw [hold_f3 hf, frsOk_iff] at h; rw [hR0, evL, if_neg h]
  case g2 => intro h; rw [hold_f3 hf, frsOk_iff] at h; rw [hR1, evE, if_neg h]
  case g3 => intros; rw [hp79]; trivial
  case g4 => intro h1 h2; rw [hold_t3 hf, frsOk_iff] at h1; rw [hf79, hbool] at h2; rw [hR0, evL, if_pos h1, if_neg (by rw [h2]; simp)]
  case g5 => intro h1 h2; rw [hold_t3 hf, frsOk_iff] at h1; rw [hf79, hbool] at h2; rw [hR1, evE, if_pos h1, if_neg (by rw [h2]; simp)]
  case i0 =>
    intro h1 h2; rw [hold_t3 hf] at h1
    exact ⟨a1.toNat, by omega, by omega, by simp, rfl⟩
  all_goals (try (intro o0 t hI0; obtain ⟨c0, ht1, ht2, ht3, ht4⟩ := hI0))
  case i1 => intros; exact ⟨0, rfl, by omega, by omega, rfl⟩
  case i2 =>
    intro h1 h2 h3; rw [hold_t3 hf] at h1
    have : c0 = 0 := by omega
    subst this
    simp only [tks, List.append_nil] at ht4
    exact ⟨a0.toNat, by omega, by omega, by omega, ht4⟩
  case g31 =>
    intro o k ⟨c, hc1, hc2, hc3, hc4⟩ h1 h2 h3 h4
    rw [hold_t3 hf, frsOk_iff] at h1; rw [hf79, hbool] at h2
    have : c = 0 := by omega
    subst this
    simp only [rels, List.append_nil] at hc4
    rw [hR0, evL, if_pos h1, if_pos h2, hc4]
  case g32 =>
    intro o k ⟨c, hc1, hc2, hc3, hc4⟩ h1 h2 h3 h4
    rw [hold_t3 hf, frsOk_iff] at h1; rw [hf79, hbool] at h2
    rw [hR1, evE, if_pos h1, if_pos h2]
  all_goals first
    | (intro o k hI; obtain ⟨c, hc1, hc2, hc3, hc4⟩ := hI; have hc0 : 0 ≤ k := hc2; intro h1 h2 h3 h4; rw [hold_t3 hf] at h1; have hmb := mul_bd2 (k := k + 1) (m := a1) (by omega) (by omega) (by omega) (by omega); (try simp only [List.length_cons, List.length_nil]); (try omega))
    | (intro o k hI; obtain ⟨q, hq1, hq2, hq3, hq4⟩ := hI; subst hq1; intro h1 h2 h3 h4; (try simp only [Int.toNat_natCast, gt_wI] at *); rw [hold_t3 hf] at h1; (try (intro h5)); (try omega))
  case g10 => simp only [List.length_cons, List.length_nil]; omega
  case n12 =>
    refine ⟨⟨q + 1, rfl, by omega, by simp; omega, ?_⟩, by omega⟩
    rw [tickX_yes (by omega) h5] at hq4
    rw [List.append_assoc]; exact hq4
  case n14 =>
    refine ⟨⟨q + 1, rfl, by omega, by omega, ?_⟩, by omega⟩
    rw [tickX_no (by omega) h5] at hq4
    exact hq4
  case n16 =>
    rw [drop_end h4] at hq4
    simp only [tickX, List.append_nil] at hq4
    cases c0 with
    | zero => omega
    | succ c =>
      refine ⟨⟨c, by omega, by omega, by omega, ?_⟩, by omega⟩
      rw [hq4]
      simp only [tks, List.append_assoc] at ht4 ⊢
      exact ht4
  case n30 =>
    cases c with
    | zero => omega
    | succ c =>
      refine ⟨⟨c, by omega, by omega, by simp; omega, ?_⟩, by omega⟩
      simp only [rels] at hc4
      rw [show ((a2.length : Nat) : Int) + 1 + 2 * k = ((a2.length : Nat) : Int) + 1 + 2 * k from rfl, List.append_assoc]
      exact hc4

def relT (n m t : Int) : Nat → Int → Rows
  | 0, _ => []
  | c + 1, k => (if t = (k + 1) * (m + 1) then [[.i t, .i (n + 1 + 2 * k)]] else []) ++ ((if t = (k + 1) * (m + 1) + m then [[.i t, .i (n + 2 + 2 * k)]] else []) ++ relT n m t c (k + 1))
def tickY (t : Int) (l : Rows) (i : Int) : Rows := if 1 ≤ t then tickX t l i else []
def refT (m : Int) (x : Rows) (ly : Nat) (t : Int) : Rows := tickY t x 0 ++ ((if t = 0 then [[.i 0, .i ((x.length : Nat) : Int)]] else []) ++ relT ((x.length : Nat) : Int) m t ly 0)
def refs (m : Int) (x : Rows) (ly : Nat) : Int → Nat → Rows
  | _, 0 => []
  | t, c + 1 => refT m x ly t ++ refs m x ly (t + 1) c

theorem refs_add (m : Int) (x : Rows) (ly : Nat) : ∀ (p q : Nat) (t : Int), refs m x ly t (p + q) = refs m x ly t p ++ refs m x ly (t + p) q
  | 0, q, t => by simp [refs]
  | p + 1, q, t => by
    rw [show p + 1 + q = (p + q) + 1 by omega]
    simp only [refs]
    rw [refs_add m x ly p q (t + 1), List.append_assoc, show t + 1 + (p : Int) = t + ((p + 1 : Nat) : Int) by omega]
theorem refs_nil (m : Int) (x : Rows) (ly : Nat) : ∀ (c : Nat) (t : Int), (∀ s, t ≤ s → s < t + c → refT m x ly s = []) → refs m x ly t c = []
  | 0, _, _ => rfl
  | c + 1, t, h => by
    simp only [refs]
    rw [h t (by omega) (by omega), refs_nil m x ly c (t + 1) fun s h1 h2 => h s (by omega) (by omega)]
    rfl
theorem mul_step {j k m : Int} (hm : 0 ≤ m) (h : j + 1 ≤ k) : (j + 1) * (m + 1) + (m + 1) ≤ (k + 1) * (m + 1) := by
  have := Int.mul_le_mul_of_nonneg_right (show j + 2 ≤ k + 1 by omega) (show 0 ≤ m + 1 by omega)
  have e : (j + 2) * (m + 1) = (j + 1) * (m + 1) + (m + 1) := by rw [show j + 2 = (j + 1) + 1 by omega, Int.add_mul, Int.one_mul]
  omega
theorem relT_none {n m t : Int} : ∀ (c : Nat) (k : Int), (∀ j, k ≤ j → j < k + c → t ≠ (j + 1) * (m + 1) ∧ t ≠ (j + 1) * (m + 1) + m) → relT n m t c k = []
  | 0, _, _ => rfl
  | c + 1, k, h => by
    have h0 := h k (by omega) (by omega)
    simp only [relT, if_neg h0.1, if_neg h0.2, List.nil_append]
    exact relT_none c (k + 1) fun j h1 h2 => h j (by omega) (by omega)
theorem relT_at {n m d k : Int} (hm : 1 ≤ m) (hd0 : 0 ≤ d) (hd : d ≤ m) : ∀ (c : Nat) (k0 : Int), k0 ≤ k → k < k0 + c → relT n m ((k + 1) * (m + 1) + d) c k0 = (if d = 0 then [[.i ((k + 1) * (m + 1) + d), .i (n + 1 + 2 * k)]] else []) ++ (if d = m then [[.i ((k + 1) * (m + 1) + d), .i (n + 2 + 2 * k)]] else [])
  | 0, k0, h1, h2 => by omega
  | c + 1, k0, h1, h2 => by
    by_cases hk : k0 = k
    · subst hk
      have hn : relT n m ((k0 + 1) * (m + 1) + d) c (k0 + 1) = [] := relT_none c (k0 + 1) fun j h3 _ => by
        have := mul_step (j := k0) (k := j) (m := m) (by omega) (by omega)
        omega
      simp only [relT, hn, List.append_nil]
      congr 1
      · by_cases h : d = 0
        · rw [if_pos h, if_pos (by omega)]
        · rw [if_neg h, if_neg (by omega)]
      · by_cases h : d = m
        · rw [if_pos h, if_pos (by omega)]
        · rw [if_neg h, if_neg (by omega)]
    · have := mul_step (j := k0) (k := k) (m := m) (by omega) (by omega)
      simp only [relT]
      rw [if_neg (by omega), if_neg (by omega), List.nil_append, List.nil_append]
      exact relT_at hm hd0 hd c (k0 + 1) (by omega) (by omega)

theorem refT_late {m : Int} {x : Rows} {ly : Nat} {t : Int} (hm : 1 ≤ m) (hx : okX m x = true) (ht : m < t) : refT m x ly t = relT ((x.length : Nat) : Int) m t ly 0 := by
  rw [refT, tickY, if_pos (by omega), tickX_none (fun r hr => by have := okX_iff.1 hx r hr; omega), if_neg (by omega)]
  rfl
theorem refs_blocks {m : Int} {x : Rows} {ly : Nat} {M : Nat} (hM : m = (M : Int)) (hm : 1 ≤ m) (hx : okX m x = true) : ∀ (c : Nat) (k : Int), 0 ≤ k → k + c = ly → refs m x ly ((k + 1) * (m + 1)) (c * (M + 1)) = rels ((x.length : Nat) : Int) m c k
  | 0, k, _, _ => by simp [refs, rels]
  | c + 1, k, hk, hc => by
    have hpos := mul_step (j := -1) (k := k) (m := m) (by omega) (by omega)
    have e0 : ((-1 : Int) + 1) * (m + 1) = 0 := by rw [show (-1 : Int) + 1 = 0 by omega, Int.zero_mul]
    have hT : ∀ d, 0 ≤ d → d ≤ m → refT m x ly ((k + 1) * (m + 1) + d) = (if d = 0 then [[.i ((k + 1) * (m + 1) + d), .i (((x.length : Nat) : Int) + 1 + 2 * k)]] else []) ++ (if d = m then [[.i ((k + 1) * (m + 1) + d), .i (((x.length : Nat) : Int) + 2 + 2 * k)]] else []) := fun d h1 h2 => by
      rw [refT_late hm hx (by omega)]
      exact relT_at hm h1 h2 ly 0 hk (by omega)
    rw [show (c + 1) * (M + 1) = 1 + ((M - 1) + (1 + c * (M + 1))) by rw [Nat.succ_mul]; omega, refs_add, refs_add, refs_add]
    have e1 : refs m x ly ((k + 1) * (m + 1)) 1 = [[.i ((k + 1) * (m + 1)), .i (((x.length : Nat) : Int) + 1 + 2 * k)]] := by
      have := hT 0 (by omega) (by omega)
      rw [Int.add_zero, if_pos rfl, if_neg (by omega)] at this
      simp only [refs, this, List.append_nil]
    have e2 : refs m x ly ((k + 1) * (m + 1) + ((1 : Nat) : Int)) (M - 1) = [] := refs_nil m x ly _ _ fun s h1 h2 => by
      have := hT (s - (k + 1) * (m + 1)) (by omega) (by omega)
      rw [show (k + 1) * (m + 1) + (s - (k + 1) * (m + 1)) = s by omega, if_neg (by omega), if_neg (by omega)] at this
      exact this
    have e3 : refs m x ly ((k + 1) * (m + 1) + ((1 : Nat) : Int) + ((M - 1 : Nat) : Int)) 1 = [[.i ((k + 1) * (m + 1) + m), .i (((x.length : Nat) : Int) + 2 + 2 * k)]] := by
      have := hT m (by omega) (by omega)
      rw [if_neg (by omega), if_pos rfl] at this
      rw [show (k + 1) * (m + 1) + ((1 : Nat) : Int) + ((M - 1 : Nat) : Int) = (k + 1) * (m + 1) + m by omega]
      simp only [refs, this, List.append_nil, List.nil_append]
    rw [e1, e2, e3]
    have e4 : (k + 1) * (m + 1) + ((1 : Nat) : Int) + ((M - 1 : Nat) : Int) + ((1 : Nat) : Int) = (k + 1 + 1) * (m + 1) := by
      rw [Int.add_mul (k + 1) 1 (m + 1), Int.one_mul]; omega
    rw [e4, refs_blocks hM hm hx c (k + 1) (by omega) (by omega)]
    rfl
theorem refs_ticks {m : Int} {x : Rows} {ly : Nat} (hm : 1 ≤ m) : ∀ (c : Nat) (t : Int), 1 ≤ t → t + c ≤ m + 1 → refs m x ly t c = tks x t c
  | 0, _, _, _ => rfl
  | c + 1, t, h1, h2 => by
    have hn : relT ((x.length : Nat) : Int) m t ly 0 = [] := relT_none ly 0 fun j h3 _ => by
      have := mul_step (j := -1) (k := j) (m := m) (by omega) (by omega)
      have e0 : ((-1 : Int) + 1) * (m + 1) = 0 := by rw [show (-1 : Int) + 1 = 0 by omega, Int.zero_mul]
      omega
    simp only [refs, tks]
    rw [refs_ticks hm c (t + 1) (by omega) (by omega), refT, tickY, if_pos h1, if_neg (by omega), hn]
    simp
theorem refs_all {m ly : Int} {x : Rows} (h : frsOk ly m x) (hx : okX m x = true) : refs m x ly.toNat 0 (ly * (m + 1) + m + 1).toNat = frsL ly m x := by
  obtain ⟨h1, h2, h3⟩ := h
  obtain ⟨M, hM⟩ : ∃ M : Nat, m = (M : Int) := ⟨m.toNat, by omega⟩
  obtain ⟨Y, hY⟩ : ∃ Y : Nat, ly = (Y : Int) := ⟨ly.toNat, by omega⟩
  have e : (ly * (m + 1) + m + 1).toNat = 1 + (M + Y * (M + 1)) := by
    rw [hM, hY, show ((Y : Int) * ((M : Int) + 1) + (M : Int) + 1) = ((1 + (M + Y * (M + 1)) : Nat) : Int) by push_cast; omega]
    rfl
  have hb := refs_blocks (m := m) (x := x) (ly := Y) hM (by omega) hx Y 0 (by omega) (by omega)
  rw [Int.zero_add, Int.one_mul] at hb
  have ht := refs_ticks (m := m) (x := x) (ly := Y) (by omega) M 1 (by omega) (by omega)
  have h0 : refs m x Y 0 1 = [[.i 0, .i ((x.length : Nat) : Int)]] := by
    have hn : relT ((x.length : Nat) : Int) m 0 Y 0 = [] := relT_none Y 0 fun j h3 _ => by
      have := mul_step (j := -1) (k := j) (m := m) (by omega) (by omega)
      have e0 : ((-1 : Int) + 1) * (m + 1) = 0 := by rw [show (-1 : Int) + 1 = 0 by omega, Int.zero_mul]
      omega
    simp only [refs, refT, tickY, hn]
    rfl
  rw [e, show ly.toNat = Y by omega, refs_add, refs_add, h0, show (0 : Int) + ((1 : Nat) : Int) = 1 by omega, ht, show (1 : Int) + (M : Int) = m + 1 by omega, hb, frsL, show m.toNat = M by omega, show ly.toNat = Y by omega, List.append_assoc]

theorem tickY_yes {t : Int} {l : Rows} {q : Nat} (ht : 1 ≤ t) (hq : q < l.length) (h : t ≤ wI (l.getD q [])) : tickY t (l.drop q) q = [.i t, .i (q : Int)] :: tickY t (l.drop (q + 1)) ((q : Int) + 1) := by
  rw [tickY, tickY, if_pos ht, if_pos ht, tickX_yes hq h]
theorem tickY_no {t : Int} {l : Rows} {q : Nat} (hq : q < l.length) (h : 1 ≤ t → ¬ t ≤ wI (l.getD q [])) : tickY t (l.drop q) q = tickY t (l.drop (q + 1)) ((q : Int) + 1) := by
  unfold tickY
  split
  · rename_i ht; exact tickX_no hq (h ht)
  · rfl
theorem tickY_end {t i : Int} : tickY t [] i = [] := by unfold tickY; split <;> rfl

theorem law42 {a0 a1 : Int} {a2 : Rows} {R : Nat → Nat → D} (hR0 : R 0 0 = .l (evL a0 a1 a2)) (hR1 : R 1 0 = .i (evE a0 a1 a2)) :
    V42 a0 a1 a2 R (fun _ _ k => ∃ r : Nat, k = r ∧ r ≤ a2.length ∧ okX a1 (a2.drop r) = okX a1 a2) (fun _ _ k => (a2.length - k).toNat)
      (fun _ _ _ o t => ∃ c : Nat, t + (c : Int) = a0 * (a1 + 1) + a1 + 1 ∧ 0 ≤ t ∧ ((o.length : Nat) : Int) ≤ 50 * t ∧ o ++ refs a1 a2 a0.toNat t c = refs a1 a2 a0.toNat 0 (a0 * (a1 + 1) + a1 + 1).toNat) (fun _ _ _ _ t => (a0 * (a1 + 1) + a1 + 1 - t).toNat)
      (fun _ _ _ o0 t o i => ∃ q : Nat, i = q ∧ q ≤ a2.length ∧ o.length ≤ o0.length + q ∧ o ++ tickY t (a2.drop q) q = o0 ++ tickY t a2 0) (fun _ _ _ _ _ _ i => (a2.length - i).toNat)
      (fun _ _ _ _ t o2 _ o k => ∃ c : Nat, k + (c : Int) = a0 ∧ 0 ≤ k ∧ ((o.length : Nat) : Int) ≤ ((o2.length : Nat) : Int) + 1 + 2 * k ∧ o ++ relT ((a2.length : Nat) : Int) a1 t c k = o2 ++ [[.i 0, .i ((a2.length : Nat) : Int)]] ++ relT ((a2.length : Nat) : Int) a1 t a0.toNat 0) (fun _ _ _ _ _ _ _ _ k => (a0 - k).toNat)
      (fun _ _ _ _ t o2 _ o k => ∃ c : Nat, k + (c : Int) = a0 ∧ 0 ≤ k ∧ ((o.length : Nat) : Int) ≤ ((o2.length : Nat) : Int) + 1 + 2 * k ∧ o ++ relT ((a2.length : Nat) : Int) a1 t c k = o2 ++ relT ((a2.length : Nat) : Int) a1 t a0.toNat 0) (fun _ _ _ _ _ _ _ _ k => (a0 - k).toNat) := by
  have hno : ¬ frsOk a0 a1 a2 → R 0 0 = .l [] ∧ R 1 0 = .i 3 := fun h => ⟨by rw [hR0, evL, if_neg h], by rw [hR1, evE, if_neg h]⟩
  have hbad : frsOk a0 a1 a2 → okX a1 a2 = false → R 0 0 = .l [] ∧ R 1 0 = .i 3 := fun h h2 => ⟨by rw [hR0, evL, if_pos h, if_neg (by rw [h2]; simp)], by rw [hR1, evE, if_pos h, if_neg (by rw [h2]; simp)]⟩
  have hyes : frsOk a0 a1 a2 → okX a1 a2 = true → R 0 0 = .l (refs a1 a2 a0.toNat 0 (a0 * (a1 + 1) + a1 + 1).toNat) ∧ R 1 0 = .i 0 := fun h h2 => ⟨by rw [hR0, evL, if_pos h, if_pos h2, refs_all h h2], by rw [hR1, evE, if_pos h, if_pos h2]⟩
  clear hR0 hR1
  constructor
  all_goals (try (intro e0 e1 k0 hI0; obtain ⟨r, hx0, hr, ho⟩ := hI0; subst hx0))
  all_goals (try (intro o0 t hI1; obtain ⟨c1, ht1, ht2, ht3, ht4⟩ := hI1))
  all_goals (try (intro o2 i2 hI2; obtain ⟨q, hq1, hq2, hq3, hq4⟩ := hI2; subst hq1))
  all_goals (try (intro o k hI3; obtain ⟨c, hc1, hc2, hc3, hc4⟩ := hI3))
  all_goals (intros; (try simp only [Int.toNat_natCast, gt_wI, List.length_cons, List.length_nil] at *))
  all_goals (try omega)
  all_goals first
    | (exact (hno (by unfold frsOk; omega)).1)
    | (exact (hno (by unfold frsOk; omega)).2)
    | skip
  case i0 => exact ⟨0, rfl, by omega, rfl⟩
  all_goals (have hfr : frsOk a0 a1 a2 := by unfold frsOk; omega)
  all_goals (have hmb := mul_bd2 (k := a0) (m := a1) (by omega) (by omega) (by omega) (by omega))
  all_goals (try omega)
  all_goals first
    | (exact (hbad hfr (okX_no (by omega) (by omega) ho)).1)
    | (exact (hbad hfr (okX_no (by omega) (by omega) ho)).2)
    | skip
  case n12 => exact ⟨⟨r + 1, rfl, by omega, okX_next (by omega) (by omega) ho⟩, by omega⟩
  all_goals (have hok : okX a1 a2 = true := by rw [← ho, drop_end (by omega)]; rfl)
  case i1 => exact ⟨(a0 * (a1 + 1) + a1 + 1).toNat, by omega, by omega, by simp, rfl⟩
  case g86 =>
    have : c1 = 0 := by omega
    subst this
    rw [(hyes hfr hok).1, ← ht4]; simp [refs]
  case g87 => exact (hyes hfr hok).2
  case i2 => exact ⟨0, rfl, by omega, by omega, rfl⟩
  case n24 =>
    refine ⟨⟨q + 1, rfl, by omega, by simp; omega, ?_⟩, by omega⟩
    rw [tickY_yes (by omega) (by omega) (by omega)] at hq4
    rw [List.append_assoc]; exact hq4
  case n26 =>
    refine ⟨⟨q + 1, rfl, by omega, by omega, ?_⟩, by omega⟩
    rw [tickY_no (by omega) (by omega)] at hq4
    exact hq4
  case n28 =>
    refine ⟨⟨q + 1, rfl, by omega, by omega, ?_⟩, by omega⟩
    rw [tickY_no (by omega) (by omega)] at hq4
    exact hq4
  case i3 => exact ⟨a0.toNat, by omega, by omega, by simp, rfl⟩
  case i4 => exact ⟨a0.toNat, by omega, by omega, by omega, rfl⟩
  all_goals (try (have hmk := mul_bd2 (k := k + 1) (m := a1) (by omega) (by omega) (by omega) (by omega)))
  all_goals (try (simp only [List.length_append, List.length_cons, List.length_nil]; omega))
  all_goals (try omega)
  case n57 =>
    have : c = 0 := by omega
    subst this
    cases c1 with
    | zero => omega
    | succ c1 =>
      refine ⟨⟨c1, by omega, by omega, by omega, ?_⟩, by omega⟩
      rw [drop_end (by omega), tickY_end, List.append_nil] at hq4
      simp only [relT, List.append_nil] at hc4
      rw [← ht4, hc4, hq4]
      simp only [refs, refT, List.append_assoc]
      rw [if_pos (by omega)]
  case n85 =>
    have : c = 0 := by omega
    subst this
    cases c1 with
    | zero => omega
    | succ c1 =>
      refine ⟨⟨c1, by omega, by omega, by omega, ?_⟩, by omega⟩
      rw [drop_end (by omega), tickY_end, List.append_nil] at hq4
      simp only [relT, List.append_nil] at hc4
      rw [← ht4, hc4, hq4]
      simp only [refs, refT, List.append_assoc]
      rw [if_neg (by omega), List.nil_append]
  all_goals
    cases c with
    | zero => omega
    | succ c =>
      refine ⟨⟨c, by omega, by omega, by (try simp only [List.length_append, List.length_cons, List.length_nil]); omega, ?_⟩, by omega⟩
      rw [← hc4]
      simp only [relT]
      first
        | (rw [if_pos (by omega), if_pos (by omega)]; simp only [List.append_assoc]; done)
        | (rw [if_pos (by omega), if_neg (by omega)]; simp only [List.append_assoc, List.nil_append]; done)
        | (rw [if_neg (by omega), if_pos (by omega)]; simp only [List.append_assoc, List.nil_append]; done)
        | (rw [if_neg (by omega), if_neg (by omega)]; simp only [List.nil_append]; done)
end HX

namespace HX
open Go Go.Proofs CX
structure V15 (a0 : Rows) (a1 : Rows) (R : Nat → Nat → D) (I0 : Bool → Int → Prop) (m0 : Bool → Int → Nat) : Prop where
  g0 : (¬ (a0.length : Int) = (a1.length : Int)) → R 0 0 = D.b false
  i0 : ((a0.length : Int) = (a1.length : Int)) → I0 false 0
  g2 : ∀ x0_0 x0_1, I0 x0_0 x0_1 → ((a0.length : Int) = (a1.length : Int)) → (x0_1 < (a0.length : Int)) → 0 ≤ x0_1
  g3 : ∀ x0_0 x0_1, I0 x0_0 x0_1 → ((a0.length : Int) = (a1.length : Int)) → (x0_1 < (a0.length : Int)) → x0_1 < (a0.length : Int)
  g5 : ∀ x0_0 x0_1, I0 x0_0 x0_1 → ((a0.length : Int) = (a1.length : Int)) → (x0_1 < (a0.length : Int)) → x0_1 < (a1.length : Int)
  g6 : ∀ x0_0 x0_1, I0 x0_0 x0_1 → ((a0.length : Int) = (a1.length : Int)) → (x0_1 < (a0.length : Int)) → (¬ (D.int (gt a0 x0_1.toNat 0)) = (D.int (gt a1 x0_1.toNat 0))) → R 0 0 = D.b false
  g7 : ∀ x0_0 x0_1, I0 x0_0 x0_1 → ((a0.length : Int) = (a1.length : Int)) → (x0_1 < (a0.length : Int)) → ((D.int (gt a0 x0_1.toNat 0)) = (D.int (gt a1 x0_1.toNat 0))) → -9223372036854775808 ≤ (x0_1 + 1) ∧ (x0_1 + 1) ≤ 9223372036854775807
  n8 : ∀ x0_0 x0_1, I0 x0_0 x0_1 → ((a0.length : Int) = (a1.length : Int)) → (x0_1 < (a0.length : Int)) → ((D.int (gt a0 x0_1.toNat 0)) = (D.int (gt a1 x0_1.toNat 0))) → I0 x0_0 (x0_1 + 1) ∧ m0 x0_0 (x0_1 + 1) < m0 x0_0 x0_1
  g9 : ∀ x0_0 x0_1, I0 x0_0 x0_1 → ((a0.length : Int) = (a1.length : Int)) → (¬ x0_1 < (a0.length : Int)) → R 0 0 = D.b true
end HX

namespace HX
open Go Go.Proofs CX
set_option maxHeartbeats 4000000 in
set_option maxRecDepth 100000 in
theorem walk15 {ro A pre fn} (hE : EnvOk ⟨A, (cxE ro), ksF, sigL [], pre, fn⟩) {P : List (List D) → Prop} {res : List (List D) → Nat → Nat → D}
    (hv : ∀ (a0 : Rows) (a1 : Rows), ShR [.int .i64] a0 → ShR [.int .i64] a1 → P [[.l a0], [.l a1]] → ∃ (I0 : Bool → Int → Prop) (m0 : Bool → Int → Nat), V15 a0 a1 (res [[.l a0], [.l a1]]) I0 m0) :
    PureC (cxE ro) 15 ⟨[(false, [.sl [.int .i64]]), (false, [.sl [.int .i64]])], [(false, [.bool])], false⟩ P res := by
  have hA := hE.A
  simp only [] at hA
  have hinl : ∀ f fn, inlL [] f = some fn → (cxE ro).fn f = some fn ∧ (cxE ro).ext f = none := Inls.ok (by repeat (first | exact .nil | refine .cons rfl rfl ?_))
  refine PureC.of_vc hE hinl 6 (f := 15) (fn := Tryz.f15) ⟨rfl, rfl⟩ ?_
  intro a0 ha0 a1 ha1 hP
  obtain ⟨R, hR⟩ : ∃ R, res [[.l a0], [.l a1]] = R := ⟨_, rfl⟩
  rw [hR]
  obtain ⟨I0, m0, hV⟩ := hv a0 a1 ha0 ha1 hP
  rw [hR] at hV
  clear hR hP hv
  cbv
  repeat' (first | (refine Br.mk (fun _ => ?_) (fun _ => ?_) <;> cbv) | (refine NilB.mk (fun _ => ?_) ?_ <;> cbv) | refine And.intro ?_ ?_ | exact True.intro)
  · rename_i hp0_0
    subst hA; exact hV.g0 (df (nt hp0_0))
  · rename_i hp1_0
    refine Leaf.gen fun σz hσz => ?_
    refine loopB hE hinl 6 [] [] [] (fun x : Bool × Int => [.b x.1, .i x.2]) (fun x => I0 x.1 x.2) (fun x => m0 x.1 x.2) (false, 0) (by subst hA; exact hV.i0 (dt (nf hp1_0))) ?_ ?_ <;> subst hσz
    · clear hE hinl hV; cbv; (try (repeat' (first | exact True.intro | rfl | assumption | apply And.intro)))
    · intro ⟨x0_0, x0_1⟩ hI0 K0 hK0
      cbv
      repeat' (first | (refine Br.mk (fun _ => ?_) (fun _ => ?_) <;> cbv) | (refine NilB.mk (fun _ => ?_) ?_ <;> cbv) | refine And.intro ?_ ?_ | exact True.intro)
      · rename_i hp2_0
        subst hA; exact hV.g2 _ _ hI0 (dt (nf hp1_0)) (dt hp2_0)
      · rename_i hp3_0
        subst hA; exact hV.g3 _ _ hI0 (dt (nf hp1_0)) (dt hp3_0)
      · rename_i hp4_0
        subst hA; exact hV.g2 _ _ hI0 (dt (nf hp1_0)) (dt hp4_0)
      · rename_i hp5_0
        subst hA; exact hV.g5 _ _ hI0 (dt (nf hp1_0)) (dt hp5_0)
      · rename_i hp6_0 hp6_1
        subst hA; exact hV.g6 _ _ hI0 (dt (nf hp1_0)) (dt hp6_0) (df (nt hp6_1))
      · rename_i hp7_0 hp7_1
        subst hA; exact hV.g7 _ _ hI0 (dt (nf hp1_0)) (dt hp7_0) (dt (nf hp7_1))
      · rename_i hp8_0 hp8_1
        refine hK0 (x0_0, A.add x0_1 1) _ ?_ ?_ ?_
        · subst hA; exact (hV.n8 _ _ hI0 (dt (nf hp1_0)) (dt hp8_0) (dt (nf hp8_1))).1
        · subst hA; exact (hV.n8 _ _ hI0 (dt (nf hp1_0)) (dt hp8_0) (dt (nf hp8_1))).2
        · clear hE hinl hV hK0; cbv; (try (repeat' (first | exact True.intro | rfl | assumption | apply And.intro)))
      · rename_i hp9_0
        subst hA; exact hV.g9 _ _ hI0 (dt (nf hp1_0)) (df hp9_0)
end HX

namespace HX
open Go Go.Proofs CX
set_option maxHeartbeats 4000000 in
set_option maxRecDepth 100000 in
theorem walk37 {ro A pre fn} (hE : EnvOk ⟨A, (cxE ro), ksF, sigL [(78, ⟨[(false, [.int .i64]), (false, [.sl [.sl [.sl [.int .i64], .int .i64, .int .i64]]]), (false, [.int .i64])], [(false, [.int .i64])], false⟩), (79, ⟨[(false, [.sl [.int .i64]]), (false, [.int .i64])], [(false, [.bool])], false⟩), (80, ⟨[(false, [.sl [.int .i64]]), (false, [.sl [.int .i64]]), (false, [.fnc 81])], [(false, [.int .i64])], false⟩)], pre, fn⟩) {P : List (List D) → Prop} {res : List (List D) → Nat → Nat → D}
    (hv : ∀ (a0 : Rows) (a1 : Int) (a2 : Rows), ShR [.sl [.sl [.int .i64], .int .i64, .int .i64]] a0 → ShR [.int .i64] a2 → P [[.l a0], [.i a1], [.l a2]] → ∃ (I0 : Rows → Int → Prop) (m0 : Rows → Int → Nat) (I1 : Rows → Int → Rows → Int → Prop) (m1 : Rows → Int → Rows → Int → Nat), V37 pre fn a0 a1 a2 (res [[.l a0], [.i a1], [.l a2]]) I0 m0 I1 m1) :
    PureC (cxE ro) 37 ⟨[(false, [.sl [.sl [.sl [.int .i64], .int .i64, .int .i64]]]), (false, [.int .i64]), (false, [.sl [.int .i64]])], [(false, [.sl [.int .i64]]), (false, [.int .i64])], false⟩ P res := by
  have hA := hE.A
  simp only [] at hA
  have hinl : ∀ f fn, inlL [] f = some fn → (cxE ro).fn f = some fn ∧ (cxE ro).ext f = none := Inls.ok (by repeat (first | exact .nil | refine .cons rfl rfl ?_))
  refine PureC.of_vc hE hinl 6 (f := 37) (fn := Tryz.f37) ⟨rfl, rfl⟩ ?_
  intro a0 ha0 a1 a2 ha2 hP
  obtain ⟨R, hR⟩ : ∃ R, res [[.l a0], [.i a1], [.l a2]] = R := ⟨_, rfl⟩
  rw [hR]
  obtain ⟨I0, m0, I1, m1, hV⟩ := hv a0 a1 a2 ha0 ha2 hP
  rw [hR] at hV
  clear hR hP hv
  cbv
  repeat' (first | (refine Br.mk (fun _ => ?_) (fun _ => ?_) <;> cbv) | (refine NilB.mk (fun _ => ?_) ?_ <;> cbv) | refine And.intro ?_ ?_ | exact True.intro)
  · subst hA; exact hV.g0
  · rename_i hp1_0
    subst hA; exact hV.g1 (df (nt hp1_0))
  · rename_i hp2_0
    subst hA; exact hV.g2 (df (nt hp2_0))
  · rename_i hp3_0
    subst hA; exact hV.g3 (dt (nf hp3_0))
  · rename_i hp4_0 hp4_1
    subst hA; exact hV.g4 (dt (nf hp4_0)) (nt hp4_1)
  · rename_i hp5_0 hp5_1
    subst hA; exact hV.g5 (dt (nf hp5_0)) (nt hp5_1)
  · rename_i hp6_0 hp6_1
    refine Leaf.gen fun σz hσz => ?_
    refine loopB hE hinl 6 [2] [] [] (fun x : Rows × Int => [.l x.1, .i x.2]) (fun x => I0 x.1 x.2) (fun x => m0 x.1 x.2) (a2, 0) (by subst hA; exact hV.i0 (dt (nf hp6_0)) (nf hp6_1)) ?_ ?_ <;> subst hσz
    · clear hE hinl hV; cbv; (try (repeat' (first | exact True.intro | rfl | assumption | apply And.intro)))
    · intro ⟨x0_0, x0_1⟩ hI0 K0 hK0
      cbv
      repeat' (first | (refine Br.mk (fun _ => ?_) (fun _ => ?_) <;> cbv) | (refine NilB.mk (fun _ => ?_) ?_ <;> cbv) | refine And.intro ?_ ?_ | exact True.intro)
      · rename_i hp7_0
        subst hA; exact hV.g7 _ _ hI0 (dt (nf hp6_0)) (nf hp6_1) (dt hp7_0)
      · rename_i hp8_0
        subst hA; exact hV.g8 _ _ hI0 (dt (nf hp6_0)) (nf hp6_1) (dt hp8_0)
      · rename_i hp9_0
        refine Leaf.gen fun σz hσz => ?_
        refine loopB hE hinl 6 [] [] [] (fun x : Rows × Int => [.l x.1, .i x.2]) (fun x => I1 x0_0 x0_1 x.1 x.2) (fun x => m1 x0_0 x0_1 x.1 x.2) ([], 0) (by subst hA; exact hV.i1 _ _ hI0 (dt (nf hp6_0)) (nf hp6_1) (dt hp9_0)) ?_ ?_ <;> subst hσz
        · clear hE hinl hV; cbv; (try (repeat' (first | exact True.intro | rfl | assumption | apply And.intro)))
        · intro ⟨x1_0, x1_1⟩ hI1 K1 hK1
          cbv
          repeat' (first | (refine Br.mk (fun _ => ?_) (fun _ => ?_) <;> cbv) | (refine NilB.mk (fun _ => ?_) ?_ <;> cbv) | refine And.intro ?_ ?_ | exact True.intro)
          · rename_i hp10_0
            subst hA; exact hV.g10 _ _ hI0 _ _ hI1 (dt (nf hp6_0)) (nf hp6_1) (dt hp9_0) (dt hp10_0)
          · rename_i hp11_0
            subst hA; exact hV.g11 _ _ hI0 _ _ hI1 (dt (nf hp6_0)) (nf hp6_1) (dt hp9_0) (dt hp11_0)
          · rename_i hp12_0
            subst hA; exact hV.g12 _ _ hI0 _ _ hI1 (dt (nf hp6_0)) (nf hp6_1) (dt hp9_0) (dt hp12_0)
          · rename_i hp13_0
            subst hA; exact hV.g13 _ _ hI0 _ _ hI1 (dt (nf hp6_0)) (nf hp6_1) (dt hp9_0) (dt hp13_0)
          · rename_i hp14_0
            subst hA; exact hV.g14 _ _ hI0 _ _ hI1 (dt (nf hp6_0)) (nf hp6_1) (dt hp9_0) (dt hp14_0)
          · rename_i hp15_0
            subst hA; exact hV.g15 _ _ hI0 _ _ hI1 (dt (nf hp6_0)) (nf hp6_1) (dt hp9_0) (dt hp15_0)
          · rename_i hp16_0
            subst hA; exact hV.g16 _ _ hI0 _ _ hI1 (dt (nf hp6_0)) (nf hp6_1) (dt hp9_0) (dt hp16_0)
          · rename_i hp17_0
            subst hA; exact hV.g17 _ _ hI0 _ _ hI1 (dt (nf hp6_0)) (nf hp6_1) (dt hp9_0) (dt hp17_0)
          · rename_i hp18_0
            refine hK1 (A.app x1_0 [[D.i (A.min a1 (A.tdiv (A.max 0 (A.add (A.di (A.get (A.dl (A.get a0 (A.toNat x0_1) 0)) (A.toNat x1_1) 1)) (A.di (fn 80 [[D.l (A.dl (A.get (A.dl (A.get a0 (A.toNat x0_1) 0)) (A.toNat x1_1) 0))], [D.l x0_0], [D.nil]] 0 0)))) (A.di (A.get (A.dl (A.get a0 (A.toNat x0_1) 0)) (A.toNat x1_1) 2))))]], A.add x1_1 1) _ ?_ ?_ ?_
            · subst hA; exact (hV.n18 _ _ hI0 _ _ hI1 (dt (nf hp6_0)) (nf hp6_1) (dt hp9_0) (dt hp18_0)).1
            · subst hA; exact (hV.n18 _ _ hI0 _ _ hI1 (dt (nf hp6_0)) (nf hp6_1) (dt hp9_0) (dt hp18_0)).2
            · clear hE hinl hV hK1; cbv; (try (repeat' (first | exact True.intro | rfl | assumption | apply And.intro)))
          · rename_i hp19_0
            subst hA; exact hV.g19 _ _ hI0 _ _ hI1 (dt (nf hp6_0)) (nf hp6_1) (dt hp9_0) (df hp19_0)
          · rename_i hp20_0
            refine hK0 (x1_0, A.add x0_1 1) _ ?_ ?_ ?_
            · subst hA; exact (hV.n20 _ _ hI0 _ _ hI1 (dt (nf hp6_0)) (nf hp6_1) (dt hp9_0) (df hp20_0)).1
            · subst hA; exact (hV.n20 _ _ hI0 _ _ hI1 (dt (nf hp6_0)) (nf hp6_1) (dt hp9_0) (df hp20_0)).2
            · clear hE hinl hV hK0; cbv; (try (repeat' (first | exact True.intro | rfl | assumption | apply And.intro)))
      · rename_i hp21_0
        subst hA; exact hV.g21 _ _ hI0 (dt (nf hp6_0)) (nf hp6_1) (df hp21_0)
      · rename_i hp22_0
        subst hA; exact hV.g22 _ _ hI0 (dt (nf hp6_0)) (nf hp6_1) (df hp22_0)
end HX

namespace HX
open Go Go.Proofs CX
set_option maxHeartbeats 4000000 in
set_option maxRecDepth 100000 in
theorem walk38 {ro A pre fn} (hE : EnvOk ⟨A, (cxE ro), ksF, sigL [(82, ⟨[(false, [.int .i64]), (false, [.sl [.sl [.sl [.int .i64], .int .i64, .int .i64]]]), (false, [.int .i64])], [(false, [.int .i64])], false⟩)], pre, fn⟩) {P : List (List D) → Prop} {res : List (List D) → Nat → Nat → D}
    (hv : ∀ (a0 : Rows) (a1 : Int) (a2 : Rows), ShR [.sl [.sl [.int .i64], .int .i64, .int .i64]] a0 → ShR [.int .i64] a2 → P [[.l a0], [.i a1], [.l a2]] → ∃ (I0 : Rows → Int → Int → Prop) (m0 : Rows → Int → Int → Nat) (I1 : Rows → Int → Int → Rows → Int → Prop) (m1 : Rows → Int → Int → Rows → Int → Nat) (I2 : Rows → Int → Int → Rows → Int → Rows → Int → Prop) (m2 : Rows → Int → Int → Rows → Int → Rows → Int → Nat) (I3 : Rows → Int → Int → Rows → Int → Rows → Int → Int → Int → Prop) (m3 : Rows → Int → Int → Rows → Int → Rows → Int → Int → Int → Nat), V38 pre fn a0 a1 a2 (res [[.l a0], [.i a1], [.l a2]]) I0 m0 I1 m1 I2 m2 I3 m3) :
    PureC (cxE ro) 38 ⟨[(false, [.sl [.sl [.sl [.int .i64], .int .i64, .int .i64]]]), (false, [.int .i64]), (false, [.sl [.int .i64]])], [(false, [.sl [.int .i64]]), (false, [.int .i64])], false⟩ P res := by
  have hA := hE.A
  simp only [] at hA
  have hinl : ∀ f fn, inlL [(52, Tryz.f52)] f = some fn → (cxE ro).fn f = some fn ∧ (cxE ro).ext f = none := Inls.ok (by repeat (first | exact .nil | refine .cons rfl rfl ?_))
  refine PureC.of_vc hE hinl 6 (f := 38) (fn := Tryz.f38) ⟨rfl, rfl⟩ ?_
  intro a0 ha0 a1 a2 ha2 hP
  obtain ⟨R, hR⟩ : ∃ R, res [[.l a0], [.i a1], [.l a2]] = R := ⟨_, rfl⟩
  rw [hR]
  obtain ⟨I0, m0, I1, m1, I2, m2, I3, m3, hV⟩ := hv a0 a1 a2 ha0 ha2 hP
  rw [hR] at hV
  clear hR hP hv
  cbv
  repeat' (first | (refine Br.mk (fun _ => ?_) (fun _ => ?_) <;> cbv) | (refine NilB.mk (fun _ => ?_) ?_ <;> cbv) | refine And.intro ?_ ?_ | exact True.intro)
  · subst hA; exact hV.g0
  · rename_i hp1_0
    subst hA; exact hV.g1 (df (nt hp1_0))
  · rename_i hp2_0
    subst hA; exact hV.g2 (df (nt hp2_0))
  · rename_i hp3_0
    refine Leaf.gen fun σz hσz => ?_
    refine loopB hE hinl 6 [] [] [] (fun x : Rows × Int × Int => [.l x.1, .i x.2.1, .i x.2.2]) (fun x => I0 x.1 x.2.1 x.2.2) (fun x => m0 x.1 x.2.1 x.2.2) ([], 0, 0) (by subst hA; exact hV.i0 (dt (nf hp3_0))) ?_ ?_ <;> subst hσz
    · clear hE hinl hV; cbv; (try (repeat' (first | exact True.intro | rfl | assumption | apply And.intro)))
    · intro ⟨x0_0, x0_1, x0_2⟩ hI0 K0 hK0
      cbv
      repeat' (first | (refine Br.mk (fun _ => ?_) (fun _ => ?_) <;> cbv) | (refine NilB.mk (fun _ => ?_) ?_ <;> cbv) | refine And.intro ?_ ?_ | exact True.intro)
      · rename_i hp4_0
        subst hA; exact hV.g4 _ _ _ hI0 (dt (nf hp3_0)) (dt hp4_0)
      · rename_i hp5_0
        subst hA; exact hV.g5 _ _ _ hI0 (dt (nf hp3_0)) (dt hp5_0)
      · rename_i hp6_0 hp6_1 hp6_2
        subst hA; exact hV.g6 _ _ _ hI0 (dt (nf hp3_0)) (dt hp6_0) (dt hp6_1) (df (nt hp6_2))
      · rename_i hp7_0 hp7_1 hp7_2
        subst hA; exact hV.g7 _ _ _ hI0 (dt (nf hp3_0)) (dt hp7_0) (dt hp7_1) (df (nt hp7_2))
      · rename_i hp8_0 hp8_1 hp8_2
        subst hA; exact hV.g8 _ _ _ hI0 (dt (nf hp3_0)) (dt hp8_0) (dt hp8_1) (dt (nf hp8_2))
      · rename_i hp9_0 hp9_1 hp9_2
        refine hK0 (x0_0, x0_1, A.add x0_2 1) _ ?_ ?_ ?_
        · subst hA; exact (hV.n9 _ _ _ hI0 (dt (nf hp3_0)) (dt hp9_0) (dt hp9_1) (dt (nf hp9_2))).1
        · subst hA; exact (hV.n9 _ _ _ hI0 (dt (nf hp3_0)) (dt hp9_0) (dt hp9_1) (dt (nf hp9_2))).2
        · clear hE hinl hV hK0; cbv; (try (repeat' (first | exact True.intro | rfl | assumption | apply And.intro)))
      · rename_i hp10_0 hp10_1
        subst hA; exact hV.g10 _ _ _ hI0 (dt (nf hp3_0)) (dt hp10_0) (df hp10_1)
      · rename_i hp11_0 hp11_1
        subst hA; exact hV.g11 _ _ _ hI0 (dt (nf hp3_0)) (dt hp11_0) (df hp11_1)
      · rename_i hp12_0
        refine Leaf.gen fun σz hσz => ?_
        refine loopB hE hinl 6 [10] [] [] (fun x : Rows × Int => [.l x.1, .i x.2]) (fun x => I1 x0_0 x0_1 x0_2 x.1 x.2) (fun x => m1 x0_0 x0_1 x0_2 x.1 x.2) (a2, 0) (by subst hA; exact hV.i1 _ _ _ hI0 (dt (nf hp3_0)) (df hp12_0)) ?_ ?_ <;> subst hσz
        · clear hE hinl hV; cbv; (try (repeat' (first | exact True.intro | rfl | assumption | apply And.intro)))
        · intro ⟨x1_0, x1_1⟩ hI1 K1 hK1
          cbv
          repeat' (first | (refine Br.mk (fun _ => ?_) (fun _ => ?_) <;> cbv) | (refine NilB.mk (fun _ => ?_) ?_ <;> cbv) | refine And.intro ?_ ?_ | exact True.intro)
          · rename_i hp13_0
            refine Leaf.gen fun σz hσz => ?_
            refine loopB hE hinl 6 [] [] [] (fun x : Rows × Int => [.l x.1, .i x.2]) (fun x => I2 x0_0 x0_1 x0_2 x1_0 x1_1 x.1 x.2) (fun x => m2 x0_0 x0_1 x0_2 x1_0 x1_1 x.1 x.2) ([], 0) (by subst hA; exact hV.i2 _ _ _ hI0 _ _ hI1 (dt (nf hp3_0)) (df hp12_0) (dt hp13_0)) ?_ ?_ <;> subst hσz
            · clear hE hinl hV; cbv; (try (repeat' (first | exact True.intro | rfl | assumption | apply And.intro)))
            · intro ⟨x2_0, x2_1⟩ hI2 K2 hK2
              cbv
              repeat' (first | (refine Br.mk (fun _ => ?_) (fun _ => ?_) <;> cbv) | (refine NilB.mk (fun _ => ?_) ?_ <;> cbv) | refine And.intro ?_ ?_ | exact True.intro)
              · subst hA; exact hV.g14 _ _ _ hI0 _ _ hI1 _ _ hI2 (dt (nf hp3_0)) (df hp12_0) (dt hp13_0)
              · subst hA; exact hV.g15 _ _ _ hI0 _ _ hI1 _ _ hI2 (dt (nf hp3_0)) (df hp12_0) (dt hp13_0)
              · rename_i hp16_0
                subst hA; exact hV.g16 _ _ _ hI0 _ _ hI1 _ _ hI2 (dt (nf hp3_0)) (df hp12_0) (dt hp13_0) (dt hp16_0)
              · rename_i hp17_0
                subst hA; exact hV.g17 _ _ _ hI0 _ _ hI1 _ _ hI2 (dt (nf hp3_0)) (df hp12_0) (dt hp13_0) (dt hp17_0)
              · rename_i hp18_0
                subst hA; exact hV.g18 _ _ _ hI0 _ _ hI1 _ _ hI2 (dt (nf hp3_0)) (df hp12_0) (dt hp13_0) (dt hp18_0)
              · rename_i hp19_0
                subst hA; exact hV.g19 _ _ _ hI0 _ _ hI1 _ _ hI2 (dt (nf hp3_0)) (df hp12_0) (dt hp13_0) (dt hp19_0)
              · rename_i hp20_0
                refine Leaf.gen fun σz hσz => ?_
                refine loopB hE hinl 6 [] [] [] (fun x : Int × Int => [.i x.1, .i x.2]) (fun x => I3 x0_0 x0_1 x0_2 x1_0 x1_1 x2_0 x2_1 x.1 x.2) (fun x => m3 x0_0 x0_1 x0_2 x1_0 x1_1 x2_0 x2_1 x.1 x.2) (A.di (A.get (A.dl (A.get a0 (A.toNat x1_1) 0)) (A.toNat x2_1) 1), 0) (by subst hA; exact hV.i3 _ _ _ hI0 _ _ hI1 _ _ hI2 (dt (nf hp3_0)) (df hp12_0) (dt hp13_0) (dt hp20_0)) ?_ ?_ <;> subst hσz
                · clear hE hinl hV; cbv; (try (repeat' (first | exact True.intro | rfl | assumption | apply And.intro)))
                · intro ⟨x3_0, x3_1⟩ hI3 K3 hK3
                  cbv
                  repeat' (first | (refine Br.mk (fun _ => ?_) (fun _ => ?_) <;> cbv) | (refine NilB.mk (fun _ => ?_) ?_ <;> cbv) | refine And.intro ?_ ?_ | exact True.intro)
                  · rename_i hp21_0
                    subst hA; exact hV.g21 _ _ _ hI0 _ _ hI1 _ _ hI2 _ _ hI3 (dt (nf hp3_0)) (df hp12_0) (dt hp13_0) (dt hp20_0) (dt hp21_0)
                  · rename_i hp22_0
                    subst hA; exact hV.g22 _ _ _ hI0 _ _ hI1 _ _ hI2 _ _ hI3 (dt (nf hp3_0)) (df hp12_0) (dt hp13_0) (dt hp20_0) (dt hp22_0)
                  · rename_i hp23_0
                    subst hA; exact hV.g23 _ _ _ hI0 _ _ hI1 _ _ hI2 _ _ hI3 (dt (nf hp3_0)) (df hp12_0) (dt hp13_0) (dt hp20_0) (dt hp23_0)
                  · rename_i hp24_0
                    subst hA; exact hV.g24 _ _ _ hI0 _ _ hI1 _ _ hI2 _ _ hI3 (dt (nf hp3_0)) (df hp12_0) (dt hp13_0) (dt hp20_0) (dt hp24_0)
                  · rename_i hp25_0
                    subst hA; exact hV.g25 _ _ _ hI0 _ _ hI1 _ _ hI2 _ _ hI3 (dt (nf hp3_0)) (df hp12_0) (dt hp13_0) (dt hp20_0) (dt hp25_0)
                  · rename_i hp26_0
                    subst hA; exact hV.g26 _ _ _ hI0 _ _ hI1 _ _ hI2 _ _ hI3 (dt (nf hp3_0)) (df hp12_0) (dt hp13_0) (dt hp20_0) (dt hp26_0)
                  · rename_i hp27_0
                    subst hA; exact hV.g25 _ _ _ hI0 _ _ hI1 _ _ hI2 _ _ hI3 (dt (nf hp3_0)) (df hp12_0) (dt hp13_0) (dt hp20_0) (dt hp27_0)
                  · rename_i hp28_0
                    subst hA; exact hV.g28 _ _ _ hI0 _ _ hI1 _ _ hI2 _ _ hI3 (dt (nf hp3_0)) (df hp12_0) (dt hp13_0) (dt hp20_0) (dt hp28_0)
                  · rename_i hp29_0
                    subst hA; exact hV.g29 _ _ _ hI0 _ _ hI1 _ _ hI2 _ _ hI3 (dt (nf hp3_0)) (df hp12_0) (dt hp13_0) (dt hp20_0) (dt hp29_0)
                  · rename_i hp30_0
                    subst hA; exact hV.g30 _ _ _ hI0 _ _ hI1 _ _ hI2 _ _ hI3 (dt (nf hp3_0)) (df hp12_0) (dt hp13_0) (dt hp20_0) (dt hp30_0)
                  · rename_i hp31_0
                    subst hA; exact hV.g31 _ _ _ hI0 _ _ hI1 _ _ hI2 _ _ hI3 (dt (nf hp3_0)) (df hp12_0) (dt hp13_0) (dt hp20_0) (dt hp31_0)
                  · rename_i hp32_0
                    refine hK3 (A.add x3_0 (A.mul (A.di (A.get (A.dl (A.get (A.dl (A.get a0 (A.toNat x1_1) 0)) (A.toNat x2_1) 0)) (A.toNat x3_1) 0)) (A.di (A.get x1_0 (A.toNat x3_1) 0))), A.add x3_1 1) _ ?_ ?_ ?_
                    · subst hA; exact (hV.n32 _ _ _ hI0 _ _ hI1 _ _ hI2 _ _ hI3 (dt (nf hp3_0)) (df hp12_0) (dt hp13_0) (dt hp20_0) (dt hp32_0)).1
                    · subst hA; exact (hV.n32 _ _ _ hI0 _ _ hI1 _ _ hI2 _ _ hI3 (dt (nf hp3_0)) (df hp12_0) (dt hp13_0) (dt hp20_0) (dt hp32_0)).2
                    · clear hE hinl hV hK3; cbv; (try (repeat' (first | exact True.intro | rfl | assumption | apply And.intro)))
                  · rename_i hp33_0
                    subst hA; exact hV.g33 _ _ _ hI0 _ _ hI1 _ _ hI2 _ _ hI3 (dt (nf hp3_0)) (df hp12_0) (dt hp13_0) (dt hp20_0) (df hp33_0)
                  · rename_i hp34_0
                    subst hA; exact hV.g34 _ _ _ hI0 _ _ hI1 _ _ hI2 _ _ hI3 (dt (nf hp3_0)) (df hp12_0) (dt hp13_0) (dt hp20_0) (df hp34_0)
                  · rename_i hp35_0
                    subst hA; exact hV.g35 _ _ _ hI0 _ _ hI1 _ _ hI2 _ _ hI3 (dt (nf hp3_0)) (df hp12_0) (dt hp13_0) (dt hp20_0) (df hp35_0)
                  · rename_i hp36_0
                    subst hA; exact hV.g36 _ _ _ hI0 _ _ hI1 _ _ hI2 _ _ hI3 (dt (nf hp3_0)) (df hp12_0) (dt hp13_0) (dt hp20_0) (df hp36_0)
                  · rename_i hp37_0
                    subst hA; exact hV.g37 _ _ _ hI0 _ _ hI1 _ _ hI2 _ _ hI3 (dt (nf hp3_0)) (df hp12_0) (dt hp13_0) (dt hp20_0) (df hp37_0)
                  · rename_i hp38_0
                    subst hA; exact hV.g38 _ _ _ hI0 _ _ hI1 _ _ hI2 _ _ hI3 (dt (nf hp3_0)) (df hp12_0) (dt hp13_0) (dt hp20_0) (df hp38_0)
                  · rename_i hp39_0
                    subst hA; exact hV.g39 _ _ _ hI0 _ _ hI1 _ _ hI2 _ _ hI3 (dt (nf hp3_0)) (df hp12_0) (dt hp13_0) (dt hp20_0) (df hp39_0)
                  · rename_i hp40_0
                    subst hA; exact hV.g40 _ _ _ hI0 _ _ hI1 _ _ hI2 _ _ hI3 (dt (nf hp3_0)) (df hp12_0) (dt hp13_0) (dt hp20_0) (df hp40_0)
                  · rename_i hp41_0
                    refine hK2 (A.app x2_0 [[D.i (A.min (A.tdiv (A.max x3_0 0) (A.di (A.get (A.dl (A.get a0 (A.toNat x1_1) 0)) (A.toNat x2_1) 2))) a1)]], A.add x2_1 1) _ ?_ ?_ ?_
                    · subst hA; exact (hV.n41 _ _ _ hI0 _ _ hI1 _ _ hI2 _ _ hI3 (dt (nf hp3_0)) (df hp12_0) (dt hp13_0) (dt hp20_0) (df hp41_0)).1
                    · subst hA; exact (hV.n41 _ _ _ hI0 _ _ hI1 _ _ hI2 _ _ hI3 (dt (nf hp3_0)) (df hp12_0) (dt hp13_0) (dt hp20_0) (df hp41_0)).2
                    · clear hE hinl hV hK2; cbv; (try (repeat' (first | exact True.intro | rfl | assumption | apply And.intro)))
              · rename_i hp42_0
                subst hA; exact hV.g42 _ _ _ hI0 _ _ hI1 _ _ hI2 (dt (nf hp3_0)) (df hp12_0) (dt hp13_0) (df hp42_0)
              · rename_i hp43_0
                refine hK1 (x2_0, A.add x1_1 1) _ ?_ ?_ ?_
                · subst hA; exact (hV.n43 _ _ _ hI0 _ _ hI1 _ _ hI2 (dt (nf hp3_0)) (df hp12_0) (dt hp13_0) (df hp43_0)).1
                · subst hA; exact (hV.n43 _ _ _ hI0 _ _ hI1 _ _ hI2 (dt (nf hp3_0)) (df hp12_0) (dt hp13_0) (df hp43_0)).2
                · clear hE hinl hV hK1; cbv; (try (repeat' (first | exact True.intro | rfl | assumption | apply And.intro)))
          · rename_i hp44_0
            subst hA; exact hV.g44 _ _ _ hI0 _ _ hI1 (dt (nf hp3_0)) (df hp12_0) (df hp44_0)
          · rename_i hp45_0
            subst hA; exact hV.g45 _ _ _ hI0 _ _ hI1 (dt (nf hp3_0)) (df hp12_0) (df hp45_0)
end HX
