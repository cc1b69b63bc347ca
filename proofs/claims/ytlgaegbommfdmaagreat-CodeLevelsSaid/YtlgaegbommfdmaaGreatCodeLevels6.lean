/-
  Texts of the executors: V6, W6, HxEnv, CxClose, HxBase, HxClose, HxOwn, HxCtr, HxHold, HxEq, V39, V40, V37, V38, V78.
-/
import Derived.Test.YtlgaegbommfdmaaGreatCodeLevels5
import Derived.WalkKit
import Derived.ProofKit
import Derived.JoinedCond
import Derived.RowKit3
import Derived.ChangeArms
import Derived.ChangeCalls
import Derived.WideKeyArgs
set_option linter.all false
namespace HX
open Go Go.Proofs CX
structure V6 (pre : Nat → List (List D) → Prop) (fn : Nat → List (List D) → Nat → Nat → D) (a0 : Int) (a1 : Rows) (a2 : Int) (a3 : Rows) (a4 : Int) (R : Nat → Nat → D) (I0 : Bool → Rows → Int → Prop) (m0 : Bool → Rows → Int → Nat) (I1 : Bool → Rows → Int → Bool → Rows → Int → Prop) (m1 : Bool → Rows → Int → Bool → Rows → Int → Nat) : Prop where
  g0 : (10 < (a1.length : Int)) → pre 18 []
  g1 : (10 < (a1.length : Int)) → R 0 0 = D.b (D.boo (fn 18 [] 0 0))
  g2 : (¬ 10 < (a1.length : Int)) → (40 < (a3.length : Int)) → pre 18 []
  g3 : (¬ 10 < (a1.length : Int)) → (40 < (a3.length : Int)) → R 0 0 = D.b (D.boo (fn 18 [] 0 0))
  i0 : (¬ 10 < (a1.length : Int)) → (¬ 40 < (a3.length : Int)) → I0 false [] 0
  g5 : ∀ x0_0 x0_1 x0_2, I0 x0_0 x0_1 x0_2 → (¬ 10 < (a1.length : Int)) → (¬ 40 < (a3.length : Int)) → (x0_2 < (a1.length : Int)) → 0 ≤ x0_2
  g6 : ∀ x0_0 x0_1 x0_2, I0 x0_0 x0_1 x0_2 → (¬ 10 < (a1.length : Int)) → (¬ 40 < (a3.length : Int)) → (x0_2 < (a1.length : Int)) → x0_2 < (a1.length : Int)
  g7 : ∀ x0_0 x0_1 x0_2, I0 x0_0 x0_1 x0_2 → (¬ 10 < (a1.length : Int)) → (¬ 40 < (a3.length : Int)) → (x0_2 < (a1.length : Int)) → (32 < ((D.rows (gt a1 x0_2.toNat 0)).length : Int)) → pre 18 []
  g8 : ∀ x0_0 x0_1 x0_2, I0 x0_0 x0_1 x0_2 → (¬ 10 < (a1.length : Int)) → (¬ 40 < (a3.length : Int)) → (x0_2 < (a1.length : Int)) → (32 < ((D.rows (gt a1 x0_2.toNat 0)).length : Int)) → R 0 0 = D.b (D.boo (fn 18 [] 0 0))
  i1 : ∀ x0_0 x0_1 x0_2, I0 x0_0 x0_1 x0_2 → (¬ 10 < (a1.length : Int)) → (¬ 40 < (a3.length : Int)) → (x0_2 < (a1.length : Int)) → (¬ 32 < ((D.rows (gt a1 x0_2.toNat 0)).length : Int)) → I1 x0_0 x0_1 x0_2 x0_0 [] 0
  g10 : ∀ x0_0 x0_1 x0_2, I0 x0_0 x0_1 x0_2 → ∀ x1_0 x1_1 x1_2, I1 x0_0 x0_1 x0_2 x1_0 x1_1 x1_2 → (¬ 10 < (a1.length : Int)) → (¬ 40 < (a3.length : Int)) → (x0_2 < (a1.length : Int)) → (¬ 32 < ((D.rows (gt a1 x0_2.toNat 0)).length : Int)) → 0 ≤ x0_2
  g11 : ∀ x0_0 x0_1 x0_2, I0 x0_0 x0_1 x0_2 → ∀ x1_0 x1_1 x1_2, I1 x0_0 x0_1 x0_2 x1_0 x1_1 x1_2 → (¬ 10 < (a1.length : Int)) → (¬ 40 < (a3.length : Int)) → (x0_2 < (a1.length : Int)) → (¬ 32 < ((D.rows (gt a1 x0_2.toNat 0)).length : Int)) → x0_2 < (a1.length : Int)
  g12 : ∀ x0_0 x0_1 x0_2, I0 x0_0 x0_1 x0_2 → ∀ x1_0 x1_1 x1_2, I1 x0_0 x0_1 x0_2 x1_0 x1_1 x1_2 → (¬ 10 < (a1.length : Int)) → (¬ 40 < (a3.length : Int)) → (x0_2 < (a1.length : Int)) → (¬ 32 < ((D.rows (gt a1 x0_2.toNat 0)).length : Int)) → (x1_2 < ((D.rows (gt a1 x0_2.toNat 0)).length : Int)) → 0 ≤ x0_2
  g13 : ∀ x0_0 x0_1 x0_2, I0 x0_0 x0_1 x0_2 → ∀ x1_0 x1_1 x1_2, I1 x0_0 x0_1 x0_2 x1_0 x1_1 x1_2 → (¬ 10 < (a1.length : Int)) → (¬ 40 < (a3.length : Int)) → (x0_2 < (a1.length : Int)) → (¬ 32 < ((D.rows (gt a1 x0_2.toNat 0)).length : Int)) → (x1_2 < ((D.rows (gt a1 x0_2.toNat 0)).length : Int)) → x0_2 < (a1.length : Int)
  g14 : ∀ x0_0 x0_1 x0_2, I0 x0_0 x0_1 x0_2 → ∀ x1_0 x1_1 x1_2, I1 x0_0 x0_1 x0_2 x1_0 x1_1 x1_2 → (¬ 10 < (a1.length : Int)) → (¬ 40 < (a3.length : Int)) → (x0_2 < (a1.length : Int)) → (¬ 32 < ((D.rows (gt a1 x0_2.toNat 0)).length : Int)) → (x1_2 < ((D.rows (gt a1 x0_2.toNat 0)).length : Int)) → 0 ≤ x1_2
  g15 : ∀ x0_0 x0_1 x0_2, I0 x0_0 x0_1 x0_2 → ∀ x1_0 x1_1 x1_2, I1 x0_0 x0_1 x0_2 x1_0 x1_1 x1_2 → (¬ 10 < (a1.length : Int)) → (¬ 40 < (a3.length : Int)) → (x0_2 < (a1.length : Int)) → (¬ 32 < ((D.rows (gt a1 x0_2.toNat 0)).length : Int)) → (x1_2 < ((D.rows (gt a1 x0_2.toNat 0)).length : Int)) → x1_2 < ((D.rows (gt a1 x0_2.toNat 0)).length : Int)
  g16 : ∀ x0_0 x0_1 x0_2, I0 x0_0 x0_1 x0_2 → ∀ x1_0 x1_1 x1_2, I1 x0_0 x0_1 x0_2 x1_0 x1_1 x1_2 → (¬ 10 < (a1.length : Int)) → (¬ 40 < (a3.length : Int)) → (x0_2 < (a1.length : Int)) → (¬ 32 < ((D.rows (gt a1 x0_2.toNat 0)).length : Int)) → (x1_2 < ((D.rows (gt a1 x0_2.toNat 0)).length : Int)) → (40 < (((D.rows (gt (D.rows (gt a1 x0_2.toNat 0)) x1_2.toNat 0)).length : Int))) → pre 18 []
  g17 : ∀ x0_0 x0_1 x0_2, I0 x0_0 x0_1 x0_2 → ∀ x1_0 x1_1 x1_2, I1 x0_0 x0_1 x0_2 x1_0 x1_1 x1_2 → (¬ 10 < (a1.length : Int)) → (¬ 40 < (a3.length : Int)) → (x0_2 < (a1.length : Int)) → (¬ 32 < ((D.rows (gt a1 x0_2.toNat 0)).length : Int)) → (x1_2 < ((D.rows (gt a1 x0_2.toNat 0)).length : Int)) → (40 < (((D.rows (gt (D.rows (gt a1 x0_2.toNat 0)) x1_2.toNat 0)).length : Int))) → R 0 0 = D.b (D.boo (fn 18 [] 0 0))
  g18 : ∀ x0_0 x0_1 x0_2, I0 x0_0 x0_1 x0_2 → ∀ x1_0 x1_1 x1_2, I1 x0_0 x0_1 x0_2 x1_0 x1_1 x1_2 → (¬ 10 < (a1.length : Int)) → (¬ 40 < (a3.length : Int)) → (x0_2 < (a1.length : Int)) → (¬ 32 < ((D.rows (gt a1 x0_2.toNat 0)).length : Int)) → (x1_2 < ((D.rows (gt a1 x0_2.toNat 0)).length : Int)) → (¬ 40 < (((D.rows (gt (D.rows (gt a1 x0_2.toNat 0)) x1_2.toNat 0)).length : Int))) → 0 ≤ x0_2
  g19 : ∀ x0_0 x0_1 x0_2, I0 x0_0 x0_1 x0_2 → ∀ x1_0 x1_1 x1_2, I1 x0_0 x0_1 x0_2 x1_0 x1_1 x1_2 → (¬ 10 < (a1.length : Int)) → (¬ 40 < (a3.length : Int)) → (x0_2 < (a1.length : Int)) → (¬ 32 < ((D.rows (gt a1 x0_2.toNat 0)).length : Int)) → (x1_2 < ((D.rows (gt a1 x0_2.toNat 0)).length : Int)) → (¬ 40 < (((D.rows (gt (D.rows (gt a1 x0_2.toNat 0)) x1_2.toNat 0)).length : Int))) → x0_2 < (a1.length : Int)
  g20 : ∀ x0_0 x0_1 x0_2, I0 x0_0 x0_1 x0_2 → ∀ x1_0 x1_1 x1_2, I1 x0_0 x0_1 x0_2 x1_0 x1_1 x1_2 → (¬ 10 < (a1.length : Int)) → (¬ 40 < (a3.length : Int)) → (x0_2 < (a1.length : Int)) → (¬ 32 < ((D.rows (gt a1 x0_2.toNat 0)).length : Int)) → (x1_2 < ((D.rows (gt a1 x0_2.toNat 0)).length : Int)) → (¬ 40 < (((D.rows (gt (D.rows (gt a1 x0_2.toNat 0)) x1_2.toNat 0)).length : Int))) → 0 ≤ x1_2
  g21 : ∀ x0_0 x0_1 x0_2, I0 x0_0 x0_1 x0_2 → ∀ x1_0 x1_1 x1_2, I1 x0_0 x0_1 x0_2 x1_0 x1_1 x1_2 → (¬ 10 < (a1.length : Int)) → (¬ 40 < (a3.length : Int)) → (x0_2 < (a1.length : Int)) → (¬ 32 < ((D.rows (gt a1 x0_2.toNat 0)).length : Int)) → (x1_2 < ((D.rows (gt a1 x0_2.toNat 0)).length : Int)) → (¬ 40 < (((D.rows (gt (D.rows (gt a1 x0_2.toNat 0)) x1_2.toNat 0)).length : Int))) → x1_2 < ((D.rows (gt a1 x0_2.toNat 0)).length : Int)
  g22 : ∀ x0_0 x0_1 x0_2, I0 x0_0 x0_1 x0_2 → ∀ x1_0 x1_1 x1_2, I1 x0_0 x0_1 x0_2 x1_0 x1_1 x1_2 → (¬ 10 < (a1.length : Int)) → (¬ 40 < (a3.length : Int)) → (x0_2 < (a1.length : Int)) → (¬ 32 < ((D.rows (gt a1 x0_2.toNat 0)).length : Int)) → (x1_2 < ((D.rows (gt a1 x0_2.toNat 0)).length : Int)) → (¬ 40 < (((D.rows (gt (D.rows (gt a1 x0_2.toNat 0)) x1_2.toNat 0)).length : Int))) → ((List.length ([] : Rows)) + (List.length (D.rows (gt (D.rows (gt a1 x0_2.toNat 0)) x1_2.toNat 0)))) * 8 ≤ 4294967296 ∧ ((List.length ([] : Rows)) + (List.length (D.rows (gt (D.rows (gt a1 x0_2.toNat 0)) x1_2.toNat 0)))) ≤ 4294967296
  g31 : ∀ x0_0 x0_1 x0_2, I0 x0_0 x0_1 x0_2 → ∀ x1_0 x1_1 x1_2, I1 x0_0 x0_1 x0_2 x1_0 x1_1 x1_2 → (¬ 10 < (a1.length : Int)) → (¬ 40 < (a3.length : Int)) → (x0_2 < (a1.length : Int)) → (¬ 32 < ((D.rows (gt a1 x0_2.toNat 0)).length : Int)) → (x1_2 < ((D.rows (gt a1 x0_2.toNat 0)).length : Int)) → (¬ 40 < (((D.rows (gt (D.rows (gt a1 x0_2.toNat 0)) x1_2.toNat 0)).length : Int))) → (x1_1.length + (List.length [[D.l ([] ++ (D.rows (gt (D.rows (gt a1 x0_2.toNat 0)) x1_2.toNat 0))), D.i (D.int (gt (D.rows (gt a1 x0_2.toNat 0)) x1_2.toNat 1)), D.i (D.int (gt (D.rows (gt a1 x0_2.toNat 0)) x1_2.toNat 2))]])) * 40 ≤ 4294967296 ∧ (x1_1.length + (List.length [[D.l ([] ++ (D.rows (gt (D.rows (gt a1 x0_2.toNat 0)) x1_2.toNat 0))), D.i (D.int (gt (D.rows (gt a1 x0_2.toNat 0)) x1_2.toNat 1)), D.i (D.int (gt (D.rows (gt a1 x0_2.toNat 0)) x1_2.toNat 2))]])) ≤ 4294967296
  g32 : ∀ x0_0 x0_1 x0_2, I0 x0_0 x0_1 x0_2 → ∀ x1_0 x1_1 x1_2, I1 x0_0 x0_1 x0_2 x1_0 x1_1 x1_2 → (¬ 10 < (a1.length : Int)) → (¬ 40 < (a3.length : Int)) → (x0_2 < (a1.length : Int)) → (¬ 32 < ((D.rows (gt a1 x0_2.toNat 0)).length : Int)) → (x1_2 < ((D.rows (gt a1 x0_2.toNat 0)).length : Int)) → (¬ 40 < (((D.rows (gt (D.rows (gt a1 x0_2.toNat 0)) x1_2.toNat 0)).length : Int))) → -9223372036854775808 ≤ (x1_2 + 1) ∧ (x1_2 + 1) ≤ 9223372036854775807
  n33 : ∀ x0_0 x0_1 x0_2, I0 x0_0 x0_1 x0_2 → ∀ x1_0 x1_1 x1_2, I1 x0_0 x0_1 x0_2 x1_0 x1_1 x1_2 → (¬ 10 < (a1.length : Int)) → (¬ 40 < (a3.length : Int)) → (x0_2 < (a1.length : Int)) → (¬ 32 < ((D.rows (gt a1 x0_2.toNat 0)).length : Int)) → (x1_2 < ((D.rows (gt a1 x0_2.toNat 0)).length : Int)) → (¬ 40 < (((D.rows (gt (D.rows (gt a1 x0_2.toNat 0)) x1_2.toNat 0)).length : Int))) → I1 x0_0 x0_1 x0_2 x1_0 (x1_1 ++ [[D.l ([] ++ (D.rows (gt (D.rows (gt a1 x0_2.toNat 0)) x1_2.toNat 0))), D.i (D.int (gt (D.rows (gt a1 x0_2.toNat 0)) x1_2.toNat 1)), D.i (D.int (gt (D.rows (gt a1 x0_2.toNat 0)) x1_2.toNat 2))]]) (x1_2 + 1) ∧ m1 x0_0 x0_1 x0_2 x1_0 (x1_1 ++ [[D.l ([] ++ (D.rows (gt (D.rows (gt a1 x0_2.toNat 0)) x1_2.toNat 0))), D.i (D.int (gt (D.rows (gt a1 x0_2.toNat 0)) x1_2.toNat 1)), D.i (D.int (gt (D.rows (gt a1 x0_2.toNat 0)) x1_2.toNat 2))]]) (x1_2 + 1) < m1 x0_0 x0_1 x0_2 x1_0 x1_1 x1_2
  g34 : ∀ x0_0 x0_1 x0_2, I0 x0_0 x0_1 x0_2 → ∀ x1_0 x1_1 x1_2, I1 x0_0 x0_1 x0_2 x1_0 x1_1 x1_2 → (¬ 10 < (a1.length : Int)) → (¬ 40 < (a3.length : Int)) → (x0_2 < (a1.length : Int)) → (¬ 32 < ((D.rows (gt a1 x0_2.toNat 0)).length : Int)) → (¬ x1_2 < ((D.rows (gt a1 x0_2.toNat 0)).length : Int)) → (x0_1.length + (List.length [[D.l x1_1]])) * 24 ≤ 4294967296 ∧ (x0_1.length + (List.length [[D.l x1_1]])) ≤ 4294967296
  g35 : ∀ x0_0 x0_1 x0_2, I0 x0_0 x0_1 x0_2 → ∀ x1_0 x1_1 x1_2, I1 x0_0 x0_1 x0_2 x1_0 x1_1 x1_2 → (¬ 10 < (a1.length : Int)) → (¬ 40 < (a3.length : Int)) → (x0_2 < (a1.length : Int)) → (¬ 32 < ((D.rows (gt a1 x0_2.toNat 0)).length : Int)) → (¬ x1_2 < ((D.rows (gt a1 x0_2.toNat 0)).length : Int)) → -9223372036854775808 ≤ (x0_2 + 1) ∧ (x0_2 + 1) ≤ 9223372036854775807
  n36 : ∀ x0_0 x0_1 x0_2, I0 x0_0 x0_1 x0_2 → ∀ x1_0 x1_1 x1_2, I1 x0_0 x0_1 x0_2 x1_0 x1_1 x1_2 → (¬ 10 < (a1.length : Int)) → (¬ 40 < (a3.length : Int)) → (x0_2 < (a1.length : Int)) → (¬ 32 < ((D.rows (gt a1 x0_2.toNat 0)).length : Int)) → (¬ x1_2 < ((D.rows (gt a1 x0_2.toNat 0)).length : Int)) → I0 x1_0 (x0_1 ++ [[D.l x1_1]]) (x0_2 + 1) ∧ m0 x1_0 (x0_1 ++ [[D.l x1_1]]) (x0_2 + 1) < m0 x0_0 x0_1 x0_2
  g37 : ∀ x0_0 x0_1 x0_2, I0 x0_0 x0_1 x0_2 → (¬ 10 < (a1.length : Int)) → (¬ 40 < (a3.length : Int)) → (¬ x0_2 < (a1.length : Int)) → pre 37 [[D.l x0_1], [D.i a2], [D.l a3]]
  g38 : ∀ x0_0 x0_1 x0_2, I0 x0_0 x0_1 x0_2 → (¬ 10 < (a1.length : Int)) → (¬ 40 < (a3.length : Int)) → (¬ x0_2 < (a1.length : Int)) → pre 38 [[D.l a1], [D.i a2], [D.l a3]]
  g39 : ∀ x0_0 x0_1 x0_2, I0 x0_0 x0_1 x0_2 → (¬ 10 < (a1.length : Int)) → (¬ 40 < (a3.length : Int)) → (¬ x0_2 < (a1.length : Int)) → pre 15 [[D.l (D.rows (fn 37 [[D.l x0_1], [D.i a2], [D.l a3]] 0 0))], [D.l (D.rows (fn 38 [[D.l a1], [D.i a2], [D.l a3]] 0 0))]]
  g40 : ∀ x0_0 x0_1 x0_2, I0 x0_0 x0_1 x0_2 → (¬ 10 < (a1.length : Int)) → (¬ 40 < (a3.length : Int)) → (¬ x0_2 < (a1.length : Int)) → (D.boo (fn 15 [[D.l (D.rows (fn 37 [[D.l x0_1], [D.i a2], [D.l a3]] 0 0))], [D.l (D.rows (fn 38 [[D.l a1], [D.i a2], [D.l a3]] 0 0))]] 0 0) = false) → R 0 0 = D.b false
  g41 : ∀ x0_0 x0_1 x0_2, I0 x0_0 x0_1 x0_2 → (¬ 10 < (a1.length : Int)) → (¬ 40 < (a3.length : Int)) → (¬ x0_2 < (a1.length : Int)) → (D.boo (fn 15 [[D.l (D.rows (fn 37 [[D.l x0_1], [D.i a2], [D.l a3]] 0 0))], [D.l (D.rows (fn 38 [[D.l a1], [D.i a2], [D.l a3]] 0 0))]] 0 0) = true) → (¬ (D.int (fn 37 [[D.l x0_1], [D.i a2], [D.l a3]] 1 0)) = (D.int (fn 38 [[D.l a1], [D.i a2], [D.l a3]] 1 0))) → R 0 0 = D.b false
  g42 : ∀ x0_0 x0_1 x0_2, I0 x0_0 x0_1 x0_2 → (¬ 10 < (a1.length : Int)) → (¬ 40 < (a3.length : Int)) → (¬ x0_2 < (a1.length : Int)) → (D.boo (fn 15 [[D.l (D.rows (fn 37 [[D.l x0_1], [D.i a2], [D.l a3]] 0 0))], [D.l (D.rows (fn 38 [[D.l a1], [D.i a2], [D.l a3]] 0 0))]] 0 0) = true) → ((D.int (fn 37 [[D.l x0_1], [D.i a2], [D.l a3]] 1 0)) = (D.int (fn 38 [[D.l a1], [D.i a2], [D.l a3]] 1 0))) → pre 39 [[D.i a0], [D.l x0_1], [D.i a2]]
  g43 : ∀ x0_0 x0_1 x0_2, I0 x0_0 x0_1 x0_2 → (¬ 10 < (a1.length : Int)) → (¬ 40 < (a3.length : Int)) → (¬ x0_2 < (a1.length : Int)) → (D.boo (fn 15 [[D.l (D.rows (fn 37 [[D.l x0_1], [D.i a2], [D.l a3]] 0 0))], [D.l (D.rows (fn 38 [[D.l a1], [D.i a2], [D.l a3]] 0 0))]] 0 0) = true) → ((D.int (fn 37 [[D.l x0_1], [D.i a2], [D.l a3]] 1 0)) = (D.int (fn 38 [[D.l a1], [D.i a2], [D.l a3]] 1 0))) → pre 40 [[D.i a0], [D.l a1], [D.i a2]]
  g44 : ∀ x0_0 x0_1 x0_2, I0 x0_0 x0_1 x0_2 → (¬ 10 < (a1.length : Int)) → (¬ 40 < (a3.length : Int)) → (¬ x0_2 < (a1.length : Int)) → (D.boo (fn 15 [[D.l (D.rows (fn 37 [[D.l x0_1], [D.i a2], [D.l a3]] 0 0))], [D.l (D.rows (fn 38 [[D.l a1], [D.i a2], [D.l a3]] 0 0))]] 0 0) = true) → ((D.int (fn 37 [[D.l x0_1], [D.i a2], [D.l a3]] 1 0)) = (D.int (fn 38 [[D.l a1], [D.i a2], [D.l a3]] 1 0))) → pre 34 [[D.l (D.rows (fn 39 [[D.i a0], [D.l x0_1], [D.i a2]] 0 0)), D.i (D.int (fn 39 [[D.i a0], [D.l x0_1], [D.i a2]] 0 1)), D.l (D.rows (fn 39 [[D.i a0], [D.l x0_1], [D.i a2]] 0 2))], [D.l (D.rows (fn 40 [[D.i a0], [D.l a1], [D.i a2]] 0 0)), D.i (D.int (fn 40 [[D.i a0], [D.l a1], [D.i a2]] 0 1)), D.l (D.rows (fn 40 [[D.i a0], [D.l a1], [D.i a2]] 0 2))]]
  g45 : ∀ x0_0 x0_1 x0_2, I0 x0_0 x0_1 x0_2 → (¬ 10 < (a1.length : Int)) → (¬ 40 < (a3.length : Int)) → (¬ x0_2 < (a1.length : Int)) → (D.boo (fn 15 [[D.l (D.rows (fn 37 [[D.l x0_1], [D.i a2], [D.l a3]] 0 0))], [D.l (D.rows (fn 38 [[D.l a1], [D.i a2], [D.l a3]] 0 0))]] 0 0) = true) → ((D.int (fn 37 [[D.l x0_1], [D.i a2], [D.l a3]] 1 0)) = (D.int (fn 38 [[D.l a1], [D.i a2], [D.l a3]] 1 0))) → (D.boo (fn 34 [[D.l (D.rows (fn 39 [[D.i a0], [D.l x0_1], [D.i a2]] 0 0)), D.i (D.int (fn 39 [[D.i a0], [D.l x0_1], [D.i a2]] 0 1)), D.l (D.rows (fn 39 [[D.i a0], [D.l x0_1], [D.i a2]] 0 2))], [D.l (D.rows (fn 40 [[D.i a0], [D.l a1], [D.i a2]] 0 0)), D.i (D.int (fn 40 [[D.i a0], [D.l a1], [D.i a2]] 0 1)), D.l (D.rows (fn 40 [[D.i a0], [D.l a1], [D.i a2]] 0 2))]] 0 0) = false) → R 0 0 = D.b false
  g46 : ∀ x0_0 x0_1 x0_2, I0 x0_0 x0_1 x0_2 → (¬ 10 < (a1.length : Int)) → (¬ 40 < (a3.length : Int)) → (¬ x0_2 < (a1.length : Int)) → (D.boo (fn 15 [[D.l (D.rows (fn 37 [[D.l x0_1], [D.i a2], [D.l a3]] 0 0))], [D.l (D.rows (fn 38 [[D.l a1], [D.i a2], [D.l a3]] 0 0))]] 0 0) = true) → ((D.int (fn 37 [[D.l x0_1], [D.i a2], [D.l a3]] 1 0)) = (D.int (fn 38 [[D.l a1], [D.i a2], [D.l a3]] 1 0))) → (D.boo (fn 34 [[D.l (D.rows (fn 39 [[D.i a0], [D.l x0_1], [D.i a2]] 0 0)), D.i (D.int (fn 39 [[D.i a0], [D.l x0_1], [D.i a2]] 0 1)), D.l (D.rows (fn 39 [[D.i a0], [D.l x0_1], [D.i a2]] 0 2))], [D.l (D.rows (fn 40 [[D.i a0], [D.l a1], [D.i a2]] 0 0)), D.i (D.int (fn 40 [[D.i a0], [D.l a1], [D.i a2]] 0 1)), D.l (D.rows (fn 40 [[D.i a0], [D.l a1], [D.i a2]] 0 2))]] 0 0) = true) → (¬ (D.int (fn 39 [[D.i a0], [D.l x0_1], [D.i a2]] 1 0)) = (D.int (fn 40 [[D.i a0], [D.l a1], [D.i a2]] 1 0))) → R 0 0 = D.b false
  g47 : ∀ x0_0 x0_1 x0_2, I0 x0_0 x0_1 x0_2 → (¬ 10 < (a1.length : Int)) → (¬ 40 < (a3.length : Int)) → (¬ x0_2 < (a1.length : Int)) → (D.boo (fn 15 [[D.l (D.rows (fn 37 [[D.l x0_1], [D.i a2], [D.l a3]] 0 0))], [D.l (D.rows (fn 38 [[D.l a1], [D.i a2], [D.l a3]] 0 0))]] 0 0) = true) → ((D.int (fn 37 [[D.l x0_1], [D.i a2], [D.l a3]] 1 0)) = (D.int (fn 38 [[D.l a1], [D.i a2], [D.l a3]] 1 0))) → (D.boo (fn 34 [[D.l (D.rows (fn 39 [[D.i a0], [D.l x0_1], [D.i a2]] 0 0)), D.i (D.int (fn 39 [[D.i a0], [D.l x0_1], [D.i a2]] 0 1)), D.l (D.rows (fn 39 [[D.i a0], [D.l x0_1], [D.i a2]] 0 2))], [D.l (D.rows (fn 40 [[D.i a0], [D.l a1], [D.i a2]] 0 0)), D.i (D.int (fn 40 [[D.i a0], [D.l a1], [D.i a2]] 0 1)), D.l (D.rows (fn 40 [[D.i a0], [D.l a1], [D.i a2]] 0 2))]] 0 0) = true) → ((D.int (fn 39 [[D.i a0], [D.l x0_1], [D.i a2]] 1 0)) = (D.int (fn 40 [[D.i a0], [D.l a1], [D.i a2]] 1 0))) → pre 41 [[D.i a4], [D.i a2], [D.l a3]]
  g48 : ∀ x0_0 x0_1 x0_2, I0 x0_0 x0_1 x0_2 → (¬ 10 < (a1.length : Int)) → (¬ 40 < (a3.length : Int)) → (¬ x0_2 < (a1.length : Int)) → (D.boo (fn 15 [[D.l (D.rows (fn 37 [[D.l x0_1], [D.i a2], [D.l a3]] 0 0))], [D.l (D.rows (fn 38 [[D.l a1], [D.i a2], [D.l a3]] 0 0))]] 0 0) = true) → ((D.int (fn 37 [[D.l x0_1], [D.i a2], [D.l a3]] 1 0)) = (D.int (fn 38 [[D.l a1], [D.i a2], [D.l a3]] 1 0))) → (D.boo (fn 34 [[D.l (D.rows (fn 39 [[D.i a0], [D.l x0_1], [D.i a2]] 0 0)), D.i (D.int (fn 39 [[D.i a0], [D.l x0_1], [D.i a2]] 0 1)), D.l (D.rows (fn 39 [[D.i a0], [D.l x0_1], [D.i a2]] 0 2))], [D.l (D.rows (fn 40 [[D.i a0], [D.l a1], [D.i a2]] 0 0)), D.i (D.int (fn 40 [[D.i a0], [D.l a1], [D.i a2]] 0 1)), D.l (D.rows (fn 40 [[D.i a0], [D.l a1], [D.i a2]] 0 2))]] 0 0) = true) → ((D.int (fn 39 [[D.i a0], [D.l x0_1], [D.i a2]] 1 0)) = (D.int (fn 40 [[D.i a0], [D.l a1], [D.i a2]] 1 0))) → pre 42 [[D.i a4], [D.i a2], [D.l a3]]
  g49 : ∀ x0_0 x0_1 x0_2, I0 x0_0 x0_1 x0_2 → (¬ 10 < (a1.length : Int)) → (¬ 40 < (a3.length : Int)) → (¬ x0_2 < (a1.length : Int)) → (D.boo (fn 15 [[D.l (D.rows (fn 37 [[D.l x0_1], [D.i a2], [D.l a3]] 0 0))], [D.l (D.rows (fn 38 [[D.l a1], [D.i a2], [D.l a3]] 0 0))]] 0 0) = true) → ((D.int (fn 37 [[D.l x0_1], [D.i a2], [D.l a3]] 1 0)) = (D.int (fn 38 [[D.l a1], [D.i a2], [D.l a3]] 1 0))) → (D.boo (fn 34 [[D.l (D.rows (fn 39 [[D.i a0], [D.l x0_1], [D.i a2]] 0 0)), D.i (D.int (fn 39 [[D.i a0], [D.l x0_1], [D.i a2]] 0 1)), D.l (D.rows (fn 39 [[D.i a0], [D.l x0_1], [D.i a2]] 0 2))], [D.l (D.rows (fn 40 [[D.i a0], [D.l a1], [D.i a2]] 0 0)), D.i (D.int (fn 40 [[D.i a0], [D.l a1], [D.i a2]] 0 1)), D.l (D.rows (fn 40 [[D.i a0], [D.l a1], [D.i a2]] 0 2))]] 0 0) = true) → ((D.int (fn 39 [[D.i a0], [D.l x0_1], [D.i a2]] 1 0)) = (D.int (fn 40 [[D.i a0], [D.l a1], [D.i a2]] 1 0))) → pre 21 [[D.l (D.rows (fn 41 [[D.i a4], [D.i a2], [D.l a3]] 0 0))], [D.l (D.rows (fn 42 [[D.i a4], [D.i a2], [D.l a3]] 0 0))]]
  g50 : ∀ x0_0 x0_1 x0_2, I0 x0_0 x0_1 x0_2 → (¬ 10 < (a1.length : Int)) → (¬ 40 < (a3.length : Int)) → (¬ x0_2 < (a1.length : Int)) → (D.boo (fn 15 [[D.l (D.rows (fn 37 [[D.l x0_1], [D.i a2], [D.l a3]] 0 0))], [D.l (D.rows (fn 38 [[D.l a1], [D.i a2], [D.l a3]] 0 0))]] 0 0) = true) → ((D.int (fn 37 [[D.l x0_1], [D.i a2], [D.l a3]] 1 0)) = (D.int (fn 38 [[D.l a1], [D.i a2], [D.l a3]] 1 0))) → (D.boo (fn 34 [[D.l (D.rows (fn 39 [[D.i a0], [D.l x0_1], [D.i a2]] 0 0)), D.i (D.int (fn 39 [[D.i a0], [D.l x0_1], [D.i a2]] 0 1)), D.l (D.rows (fn 39 [[D.i a0], [D.l x0_1], [D.i a2]] 0 2))], [D.l (D.rows (fn 40 [[D.i a0], [D.l a1], [D.i a2]] 0 0)), D.i (D.int (fn 40 [[D.i a0], [D.l a1], [D.i a2]] 0 1)), D.l (D.rows (fn 40 [[D.i a0], [D.l a1], [D.i a2]] 0 2))]] 0 0) = true) → ((D.int (fn 39 [[D.i a0], [D.l x0_1], [D.i a2]] 1 0)) = (D.int (fn 40 [[D.i a0], [D.l a1], [D.i a2]] 1 0))) → (D.boo (fn 21 [[D.l (D.rows (fn 41 [[D.i a4], [D.i a2], [D.l a3]] 0 0))], [D.l (D.rows (fn 42 [[D.i a4], [D.i a2], [D.l a3]] 0 0))]] 0 0) = true) → ((D.int (fn 41 [[D.i a4], [D.i a2], [D.l a3]] 1 0)) = (D.int (fn 42 [[D.i a4], [D.i a2], [D.l a3]] 1 0))) → pre 18 []
  g51 : ∀ x0_0 x0_1 x0_2, I0 x0_0 x0_1 x0_2 → (¬ 10 < (a1.length : Int)) → (¬ 40 < (a3.length : Int)) → (¬ x0_2 < (a1.length : Int)) → (D.boo (fn 15 [[D.l (D.rows (fn 37 [[D.l x0_1], [D.i a2], [D.l a3]] 0 0))], [D.l (D.rows (fn 38 [[D.l a1], [D.i a2], [D.l a3]] 0 0))]] 0 0) = true) → ((D.int (fn 37 [[D.l x0_1], [D.i a2], [D.l a3]] 1 0)) = (D.int (fn 38 [[D.l a1], [D.i a2], [D.l a3]] 1 0))) → (D.boo (fn 34 [[D.l (D.rows (fn 39 [[D.i a0], [D.l x0_1], [D.i a2]] 0 0)), D.i (D.int (fn 39 [[D.i a0], [D.l x0_1], [D.i a2]] 0 1)), D.l (D.rows (fn 39 [[D.i a0], [D.l x0_1], [D.i a2]] 0 2))], [D.l (D.rows (fn 40 [[D.i a0], [D.l a1], [D.i a2]] 0 0)), D.i (D.int (fn 40 [[D.i a0], [D.l a1], [D.i a2]] 0 1)), D.l (D.rows (fn 40 [[D.i a0], [D.l a1], [D.i a2]] 0 2))]] 0 0) = true) → ((D.int (fn 39 [[D.i a0], [D.l x0_1], [D.i a2]] 1 0)) = (D.int (fn 40 [[D.i a0], [D.l a1], [D.i a2]] 1 0))) → (D.boo (fn 21 [[D.l (D.rows (fn 41 [[D.i a4], [D.i a2], [D.l a3]] 0 0))], [D.l (D.rows (fn 42 [[D.i a4], [D.i a2], [D.l a3]] 0 0))]] 0 0) = true) → ((D.int (fn 41 [[D.i a4], [D.i a2], [D.l a3]] 1 0)) = (D.int (fn 42 [[D.i a4], [D.i a2], [D.l a3]] 1 0))) → R 0 0 = D.b (D.boo (fn 18 [] 0 0))
  g52 : ∀ x0_0 x0_1 x0_2, I0 x0_0 x0_1 x0_2 → (¬ 10 < (a1.length : Int)) → (¬ 40 < (a3.length : Int)) → (¬ x0_2 < (a1.length : Int)) → (D.boo (fn 15 [[D.l (D.rows (fn 37 [[D.l x0_1], [D.i a2], [D.l a3]] 0 0))], [D.l (D.rows (fn 38 [[D.l a1], [D.i a2], [D.l a3]] 0 0))]] 0 0) = true) → ((D.int (fn 37 [[D.l x0_1], [D.i a2], [D.l a3]] 1 0)) = (D.int (fn 38 [[D.l a1], [D.i a2], [D.l a3]] 1 0))) → (D.boo (fn 34 [[D.l (D.rows (fn 39 [[D.i a0], [D.l x0_1], [D.i a2]] 0 0)), D.i (D.int (fn 39 [[D.i a0], [D.l x0_1], [D.i a2]] 0 1)), D.l (D.rows (fn 39 [[D.i a0], [D.l x0_1], [D.i a2]] 0 2))], [D.l (D.rows (fn 40 [[D.i a0], [D.l a1], [D.i a2]] 0 0)), D.i (D.int (fn 40 [[D.i a0], [D.l a1], [D.i a2]] 0 1)), D.l (D.rows (fn 40 [[D.i a0], [D.l a1], [D.i a2]] 0 2))]] 0 0) = true) → ((D.int (fn 39 [[D.i a0], [D.l x0_1], [D.i a2]] 1 0)) = (D.int (fn 40 [[D.i a0], [D.l a1], [D.i a2]] 1 0))) → (D.boo (fn 21 [[D.l (D.rows (fn 41 [[D.i a4], [D.i a2], [D.l a3]] 0 0))], [D.l (D.rows (fn 42 [[D.i a4], [D.i a2], [D.l a3]] 0 0))]] 0 0) = true) → (¬ (D.int (fn 41 [[D.i a4], [D.i a2], [D.l a3]] 1 0)) = (D.int (fn 42 [[D.i a4], [D.i a2], [D.l a3]] 1 0))) → R 0 0 = D.b false
  g53 : ∀ x0_0 x0_1 x0_2, I0 x0_0 x0_1 x0_2 → (¬ 10 < (a1.length : Int)) → (¬ 40 < (a3.length : Int)) → (¬ x0_2 < (a1.length : Int)) → (D.boo (fn 15 [[D.l (D.rows (fn 37 [[D.l x0_1], [D.i a2], [D.l a3]] 0 0))], [D.l (D.rows (fn 38 [[D.l a1], [D.i a2], [D.l a3]] 0 0))]] 0 0) = true) → ((D.int (fn 37 [[D.l x0_1], [D.i a2], [D.l a3]] 1 0)) = (D.int (fn 38 [[D.l a1], [D.i a2], [D.l a3]] 1 0))) → (D.boo (fn 34 [[D.l (D.rows (fn 39 [[D.i a0], [D.l x0_1], [D.i a2]] 0 0)), D.i (D.int (fn 39 [[D.i a0], [D.l x0_1], [D.i a2]] 0 1)), D.l (D.rows (fn 39 [[D.i a0], [D.l x0_1], [D.i a2]] 0 2))], [D.l (D.rows (fn 40 [[D.i a0], [D.l a1], [D.i a2]] 0 0)), D.i (D.int (fn 40 [[D.i a0], [D.l a1], [D.i a2]] 0 1)), D.l (D.rows (fn 40 [[D.i a0], [D.l a1], [D.i a2]] 0 2))]] 0 0) = true) → ((D.int (fn 39 [[D.i a0], [D.l x0_1], [D.i a2]] 1 0)) = (D.int (fn 40 [[D.i a0], [D.l a1], [D.i a2]] 1 0))) → (D.boo (fn 21 [[D.l (D.rows (fn 41 [[D.i a4], [D.i a2], [D.l a3]] 0 0))], [D.l (D.rows (fn 42 [[D.i a4], [D.i a2], [D.l a3]] 0 0))]] 0 0) = false) → R 0 0 = D.b false
end HX

namespace HX
open Go Go.Proofs CX
set_option maxHeartbeats 4000000 in
set_option maxRecDepth 100000 in
theorem walk6 {ro A pre fn} (hE : EnvOk ⟨A, (cxE ro), ksF, sigL [(18, ⟨[], [(false, [.bool])], false⟩), (37, ⟨[(false, [.sl [.sl [.sl [.int .i64], .int .i64, .int .i64]]]), (false, [.int .i64]), (false, [.sl [.int .i64]])], [(false, [.sl [.int .i64]]), (false, [.int .i64])], false⟩), (38, ⟨[(false, [.sl [.sl [.sl [.int .i64], .int .i64, .int .i64]]]), (false, [.int .i64]), (false, [.sl [.int .i64]])], [(false, [.sl [.int .i64]]), (false, [.int .i64])], false⟩), (15, ⟨[(false, [.sl [.int .i64]]), (false, [.sl [.int .i64]])], [(false, [.bool])], false⟩), (39, ⟨[(false, [.int .i64]), (false, [.sl [.sl [.sl [.int .i64], .int .i64, .int .i64]]]), (false, [.int .i64])], [(true, [.sl [.int .i64, .int .i64, .int .i64, .int .i64, .int .i64, .int .i64, .int .i64, .int .i64], .int .i64, .sl [.int .i64, .int .i64, .int .i64, .int .i64]]), (false, [.int .i64])], false⟩), (40, ⟨[(false, [.int .i64]), (false, [.sl [.sl [.sl [.int .i64], .int .i64, .int .i64]]]), (false, [.int .i64])], [(true, [.sl [.int .i64, .int .i64, .int .i64, .int .i64, .int .i64, .int .i64, .int .i64, .int .i64], .int .i64, .sl [.int .i64, .int .i64, .int .i64, .int .i64]]), (false, [.int .i64])], false⟩), (34, ⟨[(true, [.sl [.int .i64, .int .i64, .int .i64, .int .i64, .int .i64, .int .i64, .int .i64, .int .i64], .int .i64, .sl [.int .i64, .int .i64, .int .i64, .int .i64]]), (true, [.sl [.int .i64, .int .i64, .int .i64, .int .i64, .int .i64, .int .i64, .int .i64, .int .i64], .int .i64, .sl [.int .i64, .int .i64, .int .i64, .int .i64]])], [(false, [.bool])], false⟩), (41, ⟨[(false, [.int .i64]), (false, [.int .i64]), (false, [.sl [.int .i64]])], [(false, [.sl [.int .i64, .int .i64]]), (false, [.int .i64])], false⟩), (42, ⟨[(false, [.int .i64]), (false, [.int .i64]), (false, [.sl [.int .i64]])], [(false, [.sl [.int .i64, .int .i64]]), (false, [.int .i64])], false⟩), (21, ⟨[(false, [.sl [.int .i64, .int .i64]]), (false, [.sl [.int .i64, .int .i64]])], [(false, [.bool])], false⟩)], pre, fn⟩) {P : List (List D) → Prop} {res : List (List D) → Nat → Nat → D}
    (hv : ∀ (a0 : Int) (a1 : Rows) (a2 : Int) (a3 : Rows) (a4 : Int), ShR [.sl [.sl [.int .i64], .int .i64, .int .i64]] a1 → ShR [.int .i64] a3 → P [[.i a0], [.l a1], [.i a2], [.l a3], [.i a4]] → ∃ (I0 : Bool → Rows → Int → Prop) (m0 : Bool → Rows → Int → Nat) (I1 : Bool → Rows → Int → Bool → Rows → Int → Prop) (m1 : Bool → Rows → Int → Bool → Rows → Int → Nat), V6 pre fn a0 a1 a2 a3 a4 (res [[.i a0], [.l a1], [.i a2], [.l a3], [.i a4]]) I0 m0 I1 m1) :
    PureC0 (cxE ro) 6 ⟨[(false, [.int .i64]), (false, [.sl [.sl [.sl [.int .i64], .int .i64, .int .i64]]]), (false, [.int .i64]), (false, [.sl [.int .i64]]), (false, [.int .i64])], [(false, [.bool])], false⟩ P res := by
  have hA := hE.A
  simp only [] at hA
  have hinl : ∀ f fn, inlL [] f = some fn → (cxE ro).fn f = some fn ∧ (cxE ro).ext f = none := Inls.ok (by repeat (first | exact .nil | refine .cons rfl rfl ?_))
  refine PureC0.of_vc hE hinl 6 (f := 6) (fn := Tryz.f6) ⟨rfl, rfl⟩ ?_
  intro a0 a1 ha1 a2 a3 ha3 a4 hP
  obtain ⟨R, hR⟩ : ∃ R, res [[.i a0], [.l a1], [.i a2], [.l a3], [.i a4]] = R := ⟨_, rfl⟩
  rw [hR]
  obtain ⟨I0, m0, I1, m1, hV⟩ := hv a0 a1 a2 a3 a4 ha1 ha3 hP
  rw [hR] at hV
  clear hR hP hv
  cbv
  repeat' (first | (refine Br.mk (fun _ => ?_) (fun _ => ?_) <;> cbv) | (refine NilB.mk (fun _ => ?_) ?_ <;> cbv) | refine And.intro ?_ ?_ | exact True.intro)
  · rename_i hp0_0
    subst hA; exact hV.g0 (dt hp0_0)
  · rename_i hp1_0
    subst hA; exact hV.g1 (dt hp1_0)
  · rename_i hp2_0 hp2_1
    subst hA; exact hV.g2 (df hp2_0) (dt hp2_1)
  · rename_i hp3_0 hp3_1
    subst hA; exact hV.g3 (df hp3_0) (dt hp3_1)
  · rename_i hp4_0 hp4_1
    refine Leaf.gen fun σz hσz => ?_
    refine loopB hE hinl 6 [] [] [] (fun x : Bool × Rows × Int => [.b x.1, .l x.2.1, .i x.2.2]) (fun x => I0 x.1 x.2.1 x.2.2) (fun x => m0 x.1 x.2.1 x.2.2) (false, [], 0) (by subst hA; exact hV.i0 (df hp4_0) (df hp4_1)) ?_ ?_ <;> subst hσz
    · clear hE hinl hV; cbv; (try (repeat' (first | exact True.intro | rfl | assumption | apply And.intro)))
    · intro ⟨x0_0, x0_1, x0_2⟩ hI0 K0 hK0
      cbv
      repeat' (first | (refine Br.mk (fun _ => ?_) (fun _ => ?_) <;> cbv) | (refine NilB.mk (fun _ => ?_) ?_ <;> cbv) | refine And.intro ?_ ?_ | exact True.intro)
      · rename_i hp5_0
        subst hA; exact hV.g5 _ _ _ hI0 (df hp4_0) (df hp4_1) (dt hp5_0)
      · rename_i hp6_0
        subst hA; exact hV.g6 _ _ _ hI0 (df hp4_0) (df hp4_1) (dt hp6_0)
      · rename_i hp7_0 hp7_1
        subst hA; exact hV.g7 _ _ _ hI0 (df hp4_0) (df hp4_1) (dt hp7_0) (dt hp7_1)
      · rename_i hp8_0 hp8_1
        subst hA; exact hV.g8 _ _ _ hI0 (df hp4_0) (df hp4_1) (dt hp8_0) (dt hp8_1)
      · rename_i hp9_0 hp9_1
        refine Leaf.gen fun σz hσz => ?_
        refine loopB hE hinl 6 [] [] [] (fun x : Bool × Rows × Int => [.b x.1, .l x.2.1, .i x.2.2]) (fun x => I1 x0_0 x0_1 x0_2 x.1 x.2.1 x.2.2) (fun x => m1 x0_0 x0_1 x0_2 x.1 x.2.1 x.2.2) (x0_0, [], 0) (by subst hA; exact hV.i1 _ _ _ hI0 (df hp4_0) (df hp4_1) (dt hp9_0) (df hp9_1)) ?_ ?_ <;> subst hσz
        · clear hE hinl hV; cbv; (try (repeat' (first | exact True.intro | rfl | assumption | apply And.intro)))
        · intro ⟨x1_0, x1_1, x1_2⟩ hI1 K1 hK1
          cbv
          repeat' (first | (refine Br.mk (fun _ => ?_) (fun _ => ?_) <;> cbv) | (refine NilB.mk (fun _ => ?_) ?_ <;> cbv) | refine And.intro ?_ ?_ | exact True.intro)
          · subst hA; exact hV.g10 _ _ _ hI0 _ _ _ hI1 (df hp4_0) (df hp4_1) (dt hp9_0) (df hp9_1)
          · subst hA; exact hV.g11 _ _ _ hI0 _ _ _ hI1 (df hp4_0) (df hp4_1) (dt hp9_0) (df hp9_1)
          · rename_i hp12_0
            subst hA; exact hV.g12 _ _ _ hI0 _ _ _ hI1 (df hp4_0) (df hp4_1) (dt hp9_0) (df hp9_1) (dt hp12_0)
          · rename_i hp13_0
            subst hA; exact hV.g13 _ _ _ hI0 _ _ _ hI1 (df hp4_0) (df hp4_1) (dt hp9_0) (df hp9_1) (dt hp13_0)
          · rename_i hp14_0
            subst hA; exact hV.g14 _ _ _ hI0 _ _ _ hI1 (df hp4_0) (df hp4_1) (dt hp9_0) (df hp9_1) (dt hp14_0)
          · rename_i hp15_0
            subst hA; exact hV.g15 _ _ _ hI0 _ _ _ hI1 (df hp4_0) (df hp4_1) (dt hp9_0) (df hp9_1) (dt hp15_0)
          · rename_i hp16_0 hp16_1
            subst hA; exact hV.g16 _ _ _ hI0 _ _ _ hI1 (df hp4_0) (df hp4_1) (dt hp9_0) (df hp9_1) (dt hp16_0) (dt hp16_1)
          · rename_i hp17_0 hp17_1
            subst hA; exact hV.g17 _ _ _ hI0 _ _ _ hI1 (df hp4_0) (df hp4_1) (dt hp9_0) (df hp9_1) (dt hp17_0) (dt hp17_1)
          · rename_i hp18_0 hp18_1
            subst hA; exact hV.g18 _ _ _ hI0 _ _ _ hI1 (df hp4_0) (df hp4_1) (dt hp9_0) (df hp9_1) (dt hp18_0) (df hp18_1)
          · rename_i hp19_0 hp19_1
            subst hA; exact hV.g19 _ _ _ hI0 _ _ _ hI1 (df hp4_0) (df hp4_1) (dt hp9_0) (df hp9_1) (dt hp19_0) (df hp19_1)
          · rename_i hp20_0 hp20_1
            subst hA; exact hV.g20 _ _ _ hI0 _ _ _ hI1 (df hp4_0) (df hp4_1) (dt hp9_0) (df hp9_1) (dt hp20_0) (df hp20_1)
          · rename_i hp21_0 hp21_1
            subst hA; exact hV.g21 _ _ _ hI0 _ _ _ hI1 (df hp4_0) (df hp4_1) (dt hp9_0) (df hp9_1) (dt hp21_0) (df hp21_1)
          · rename_i hp22_0 hp22_1
            subst hA; exact hV.g22 _ _ _ hI0 _ _ _ hI1 (df hp4_0) (df hp4_1) (dt hp9_0) (df hp9_1) (dt hp22_0) (df hp22_1)
          · rename_i hp23_0 hp23_1
            subst hA; exact hV.g18 _ _ _ hI0 _ _ _ hI1 (df hp4_0) (df hp4_1) (dt hp9_0) (df hp9_1) (dt hp23_0) (df hp23_1)
          · rename_i hp24_0 hp24_1
            subst hA; exact hV.g19 _ _ _ hI0 _ _ _ hI1 (df hp4_0) (df hp4_1) (dt hp9_0) (df hp9_1) (dt hp24_0) (df hp24_1)
          · rename_i hp25_0 hp25_1
            subst hA; exact hV.g20 _ _ _ hI0 _ _ _ hI1 (df hp4_0) (df hp4_1) (dt hp9_0) (df hp9_1) (dt hp25_0) (df hp25_1)
          · rename_i hp26_0 hp26_1
            subst hA; exact hV.g21 _ _ _ hI0 _ _ _ hI1 (df hp4_0) (df hp4_1) (dt hp9_0) (df hp9_1) (dt hp26_0) (df hp26_1)
          · rename_i hp27_0 hp27_1
            subst hA; exact hV.g18 _ _ _ hI0 _ _ _ hI1 (df hp4_0) (df hp4_1) (dt hp9_0) (df hp9_1) (dt hp27_0) (df hp27_1)
          · rename_i hp28_0 hp28_1
            subst hA; exact hV.g19 _ _ _ hI0 _ _ _ hI1 (df hp4_0) (df hp4_1) (dt hp9_0) (df hp9_1) (dt hp28_0) (df hp28_1)
          · rename_i hp29_0 hp29_1
            subst hA; exact hV.g20 _ _ _ hI0 _ _ _ hI1 (df hp4_0) (df hp4_1) (dt hp9_0) (df hp9_1) (dt hp29_0) (df hp29_1)
          · rename_i hp30_0 hp30_1
            subst hA; exact hV.g21 _ _ _ hI0 _ _ _ hI1 (df hp4_0) (df hp4_1) (dt hp9_0) (df hp9_1) (dt hp30_0) (df hp30_1)
          · rename_i hp31_0 hp31_1
            subst hA; exact hV.g31 _ _ _ hI0 _ _ _ hI1 (df hp4_0) (df hp4_1) (dt hp9_0) (df hp9_1) (dt hp31_0) (df hp31_1)
          · rename_i hp32_0 hp32_1
            subst hA; exact hV.g32 _ _ _ hI0 _ _ _ hI1 (df hp4_0) (df hp4_1) (dt hp9_0) (df hp9_1) (dt hp32_0) (df hp32_1)
          · rename_i hp33_0 hp33_1
            refine hK1 (x1_0, A.app x1_1 [[D.l (A.app [] (A.dl (A.get (A.dl (A.get a1 (A.toNat x0_2) 0)) (A.toNat x1_2) 0))), D.i (A.di (A.get (A.dl (A.get a1 (A.toNat x0_2) 0)) (A.toNat x1_2) 1)), D.i (A.di (A.get (A.dl (A.get a1 (A.toNat x0_2) 0)) (A.toNat x1_2) 2))]], A.add x1_2 1) _ ?_ ?_ ?_
            · subst hA; exact (hV.n33 _ _ _ hI0 _ _ _ hI1 (df hp4_0) (df hp4_1) (dt hp9_0) (df hp9_1) (dt hp33_0) (df hp33_1)).1
            · subst hA; exact (hV.n33 _ _ _ hI0 _ _ _ hI1 (df hp4_0) (df hp4_1) (dt hp9_0) (df hp9_1) (dt hp33_0) (df hp33_1)).2
            · clear hE hinl hV hK1; cbv; (try (repeat' (first | exact True.intro | rfl | assumption | apply And.intro)))
          · rename_i hp34_0
            subst hA; exact hV.g34 _ _ _ hI0 _ _ _ hI1 (df hp4_0) (df hp4_1) (dt hp9_0) (df hp9_1) (df hp34_0)
          · rename_i hp35_0
            subst hA; exact hV.g35 _ _ _ hI0 _ _ _ hI1 (df hp4_0) (df hp4_1) (dt hp9_0) (df hp9_1) (df hp35_0)
          · rename_i hp36_0
            refine hK0 (x1_0, A.app x0_1 [[D.l x1_1]], A.add x0_2 1) _ ?_ ?_ ?_
            · subst hA; exact (hV.n36 _ _ _ hI0 _ _ _ hI1 (df hp4_0) (df hp4_1) (dt hp9_0) (df hp9_1) (df hp36_0)).1
            · subst hA; exact (hV.n36 _ _ _ hI0 _ _ _ hI1 (df hp4_0) (df hp4_1) (dt hp9_0) (df hp9_1) (df hp36_0)).2
            · clear hE hinl hV hK0; cbv; (try (repeat' (first | exact True.intro | rfl | assumption | apply And.intro)))
      · rename_i hp37_0
        subst hA; exact hV.g37 _ _ _ hI0 (df hp4_0) (df hp4_1) (df hp37_0)
      · rename_i hp38_0
        subst hA; exact hV.g38 _ _ _ hI0 (df hp4_0) (df hp4_1) (df hp38_0)
      · rename_i hp39_0
        subst hA; exact hV.g39 _ _ _ hI0 (df hp4_0) (df hp4_1) (df hp39_0)
      · rename_i hp40_0 hp40_1
        subst hA; exact hV.g40 _ _ _ hI0 (df hp4_0) (df hp4_1) (df hp40_0) (nt hp40_1)
      · rename_i hp41_0 hp41_1 hp41_2
        subst hA; exact hV.g41 _ _ _ hI0 (df hp4_0) (df hp4_1) (df hp41_0) (nf hp41_1) (df (nt hp41_2))
      · rename_i hp42_0 hp42_1 hp42_2
        subst hA; exact hV.g42 _ _ _ hI0 (df hp4_0) (df hp4_1) (df hp42_0) (nf hp42_1) (dt (nf hp42_2))
      · rename_i hp43_0 hp43_1 hp43_2
        subst hA; exact hV.g43 _ _ _ hI0 (df hp4_0) (df hp4_1) (df hp43_0) (nf hp43_1) (dt (nf hp43_2))
      · rename_i hp44_0 hp44_1 hp44_2
        subst hA; exact hV.g44 _ _ _ hI0 (df hp4_0) (df hp4_1) (df hp44_0) (nf hp44_1) (dt (nf hp44_2))
      · rename_i hp45_0 hp45_1 hp45_2 hp45_3
        subst hA; exact hV.g45 _ _ _ hI0 (df hp4_0) (df hp4_1) (df hp45_0) (nf hp45_1) (dt (nf hp45_2)) (nt hp45_3)
      · rename_i hp46_0 hp46_1 hp46_2 hp46_3 hp46_4
        subst hA; exact hV.g46 _ _ _ hI0 (df hp4_0) (df hp4_1) (df hp46_0) (nf hp46_1) (dt (nf hp46_2)) (nf hp46_3) (df (nt hp46_4))
      · rename_i hp47_0 hp47_1 hp47_2 hp47_3 hp47_4
        subst hA; exact hV.g47 _ _ _ hI0 (df hp4_0) (df hp4_1) (df hp47_0) (nf hp47_1) (dt (nf hp47_2)) (nf hp47_3) (dt (nf hp47_4))
      · rename_i hp48_0 hp48_1 hp48_2 hp48_3 hp48_4
        subst hA; exact hV.g48 _ _ _ hI0 (df hp4_0) (df hp4_1) (df hp48_0) (nf hp48_1) (dt (nf hp48_2)) (nf hp48_3) (dt (nf hp48_4))
      · rename_i hp49_0 hp49_1 hp49_2 hp49_3 hp49_4
        subst hA; exact hV.g49 _ _ _ hI0 (df hp4_0) (df hp4_1) (df hp49_0) (nf hp49_1) (dt (nf hp49_2)) (nf hp49_3) (dt (nf hp49_4))
      · rename_i hp50_0 hp50_1 hp50_2 hp50_3 hp50_4 hp50_5 hp50_6
        subst hA; exact hV.g50 _ _ _ hI0 (df hp4_0) (df hp4_1) (df hp50_0) (nf hp50_1) (dt (nf hp50_2)) (nf hp50_3) (dt (nf hp50_4)) hp50_5 (dt hp50_6)
      · rename_i hp51_0 hp51_1 hp51_2 hp51_3 hp51_4 hp51_5 hp51_6
        subst hA; exact hV.g51 _ _ _ hI0 (df hp4_0) (df hp4_1) (df hp51_0) (nf hp51_1) (dt (nf hp51_2)) (nf hp51_3) (dt (nf hp51_4)) hp51_5 (dt hp51_6)
      · rename_i hp52_0 hp52_1 hp52_2 hp52_3 hp52_4 hp52_5 hp52_6
        subst hA; exact hV.g52 _ _ _ hI0 (df hp4_0) (df hp4_1) (df hp52_0) (nf hp52_1) (dt (nf hp52_2)) (nf hp52_3) (dt (nf hp52_4)) hp52_5 (df hp52_6)
      · rename_i hp53_0 hp53_1 hp53_2 hp53_3 hp53_4 hp53_5
        subst hA; exact hV.g53 _ _ _ hI0 (df hp4_0) (df hp4_1) (df hp53_0) (nf hp53_1) (dt (nf hp53_2)) (nf hp53_3) (dt (nf hp53_4)) hp53_5
end HX

namespace HX
open Go Go.Proofs CX

theorem tyB_ok : tyB.All (fun t ty => CX.env.T t = some ty) := by
  unfold tyB
  simp only [BT.All, true_and, and_true]
  repeat' apply And.intro
  all_goals rfl

theorem cxE_ok (ro : Addr → Option V) : CX.EnvOk (cxE ro) Tryz.prog := by
  refine ⟨fun t ty h => CX.env_ok.T t ty (tyB_ok.get h), fun f fn h => CX.env_ok.fn f fn h, CX.env_ok.mixed, fun f b h w => ?_⟩
  simp only [cxE, extF] at h
  split at h
  · rename_i hb
    simp only [beqN_iff] at hb
    simp only [Option.some.injEq] at h
    subst hb h
    exact (CX.works_ok w).mono fun e w' ⟨h1, h2, h3, h4, h5, h6⟩ => ⟨h1, h2, h3, h4, h5, h6⟩
  · cases h

theorem hxT {ro : Addr → Option V} : TOk (cxE ro) := TOk.of (cxE_ok ro)

theorem hxEnv {ro : Addr → Option V} {sig : Nat → Option Sig} {pre : Nat → List (List D) → Prop} {fn : Nat → List (List D) → Nat → Nat → D} (h : ∀ f sg, sig f = some sg → PureC (cxE ro) f sg (pre f) (fn f)) : EnvOk ⟨Ar.std, cxE ro, ksF, sig, pre, fn⟩ := ⟨rfl, hxT, h⟩

theorem works_pure {ro : Addr → Option V} : PureC (cxE ro) 18 ⟨[], [(false, [.bool])], false⟩ (fun _ => True) (fun _ _ _ => .b true) := by
  intro ds _ g bar nx h args hg hbar ha
  cases args with
  | cons _ _ => cases ds <;> simp [ArgsFz] at ha
  | nil =>
    have hfn : ∃ fn c, (cxE ro).fn 18 = some fn ∧ fn.body = some c := ⟨_, _, rfl, rfl⟩
    obtain ⟨fn, c, h1, h2⟩ := hfn
    refine ⟨[.bool true], h, nx, g, Evt.of fun n k => ?_, Nat.le_refl _, fun _ _ => rfl, fun _ _ h => h, fun id o hgo => ⟨hg id o hgo, .inl hgo⟩, ⟨[.bool true], rfl, fun j k hj => ?_, _, rfl, rfl⟩, trivial⟩
    · have hx : (cxE ro).ext 18 = some true := rfl
      simp only [callF, h1, h2, hx]
      rfl
    · cases j with
      | zero =>
        simp only [List.getElem?_cons_zero, Option.some.injEq] at hj
        subst hj
        exact ⟨_, rfl, by simp only [FzC]; exact ⟨⟨_, rfl⟩, rfl⟩⟩
      | succ j => simp at hj

theorem call_ro {P : Program} {E : CX.Env} (hE : CX.EnvOk E P) {f : FuncId} {n : Nat} {v : V} {args : List V} {xs : List Value} {h' : T O} {nx' : Nat} {w : World} (hro : RoAt E.ro w) (ha : RvL (fun _ => none) 0 args xs)
    (h : callF E (cx E n) 0 .e 0 f args (fun v h nx => retV v h nx) = retV v h' nx') :
    Calls P f xs.toArray w fun e w' => ∃ u ρ n, e = .returned u ∧ Rv ρ n v u ∧ Kept w w' := by
  obtain ⟨v', g', n', fn, h1, _, _, h2⟩ := callF_ok hE (cx_ok hE n).1 (ρ := fun _ => none) (n := 0) (bar := 0) (g := .e) (w := w) (xs := xs) ⟨hro, fun a v h id o L _ _ hL => by cases hL⟩ ⟨fun id o h => by simp [T.get] at h, fun id o id' o' h => by simp [T.get] at h, fun _ _ => rfl, fun _ _ h => by cases h⟩ ha h
  have e : v' = v := by
    simp only [retV, Option.some.injEq, Prod.mk.injEq, CX.St.mk.injEq, CX.T.n.injEq, true_and, and_true] at h1
    exact h1.1
  subst e
  refine (callsIn_wide.1 (h2 none)).mono fun e w' he => ?_
  obtain ⟨u, ρ', rfl, d1, _, _, _, d5⟩ := he
  refine ⟨u, ρ', n', rfl, d1, d5.os, d5.tape, d5.output, d5.size, fun b hb => d5.keep b hb ?_⟩
  rintro ⟨id, o, L, _, h, _⟩
  simp [T.get] at h
end HX

namespace CX
open Go Go.ChangeShapes Go.WideShapes

theorem Kept.frozen {w w' : World} (h : Kept w w') {a : Addr} (ha : a.block < w.heap.size) : w'.frozen? a = w.frozen? a := by
  simp only [World.frozen?, h.2.2.2.2 a.block ha]

theorem Kept.but {w w' : World} (h : Kept w w') (may : MemPlace → Prop) : w.keptBut w' may := by
  refine ⟨h.1, h.2.2.1, fun i hi => ?_⟩
  rw [h.2.2.2.2 i hi]
  obtain ⟨o, ho⟩ : ∃ o, w.heap[i]? = some o := ⟨w.heap[i], by simp [hi]⟩
  rw [ho]
  cases o with
  | cells c t fr => exact ⟨rfl, rfl, rfl, fun _ _ => rfl⟩
  | map es c => exact .inr ⟨rfl, rfl⟩
  | _ => rfl

section
variable {H : Type} {enc : TypeId × Value → H} {P : Program}

theorem post_kept {f : Func} {s : ChangeSpec} {apart fresh handsOn again : Bool} {W W' : World} {args : Array Value} {v : Value} {ds gs : List (DataW H)} {before pa pv : List MemPlace}
    (hW : DataW.Whole enc P f.params.toList s.vars apart W args.toList ds gs before)
    (hres : ∀ (b : Nat) (sp : Nat → Bool) (hd : Bool), DataW.TrodAll enc P W' b sp hd f.resultTypes.toList (v.resultList f.resultTypes.size) (s.fn H (ds ++ gs)).results [])
    (hargs : ∀ sp : Nat → Bool, (∀ p ∈ before, sp p.block = true) → DataW.TrodAll enc P W' 0 sp true f.params.toList args.toList (s.fn H (ds ++ gs)).args pa)
    (hvars : ∀ sp : Nat → Bool, (∀ p ∈ before, sp p.block = true) → DataW.TrodVars enc P W' sp s.vars (s.fn H (ds ++ gs)).vars pv)
    (hps : before = pa ++ pv) (hk : Kept W W')
    (hok : ∀ (j : Nat) (t : TypeId) (r : Value), f.resultTypes[j]? = some t → (v.resultList f.resultTypes.size)[j]? = some r → Value.okWide P W' .any 0 t r) :
    s.post enc P f apart fresh handsOn again W args v W' := by
  have hold : ∀ p ∈ before, (fun b => decide (b < W.heap.size)) p.block = true := fun p hp => by simpa using hW.lt p hp
  have hlt := hW.lt
  refine ⟨ds, gs, before, [], pa, pv, hW, hres _ _ _, hargs _ hold, hvars _ hold, World.keptBut_mono (fun p hp => ⟨hp, ?_⟩) (hk.but (· ∈ before)), fun _ => ?_⟩
  · rw [hps, List.mem_append] at hp
    exact Or.inr hp
  · obtain ⟨_, _, _, _, _, hz, hn⟩ := hW
    refine ⟨hok, _, _, ([] ++ pa) ++ pv, ⟨[] ++ pa, pv, trodAll_append (hargs _ (fun _ _ => rfl)) (hres _ _ _), hvars _ (fun _ _ => rfl), rfl, ?_, ?_⟩, ?_⟩
    · intro b off hp
      have hp' : MemPlace.cell b off ∈ before := by rw [hps]; simpa using hp
      rw [hk.frozen (hlt _ hp')]
      exact hz b off hp'
    · intro ha
      have := hn ha
      rw [hps] at this
      simpa using this
    · intro p hp _
      rw [hps]
      simpa using hp
end
end CX

namespace HB
open Go Go.ChangeShapes Go.WideShapes Go.ChangeAt Go.RowKit

theorem add_block (a : Addr) (n : Nat) : (a.add n).block = a.block := by unfold Addr.add; split <;> rfl
theorem addr_add2 (a : Addr) (i c : Nat) : (a.add i).add c = a.add (i + c) := by
  unfold Addr.add
  by_cases hi : i = 0
  · subst hi; simp
  · by_cases hc : c = 0
    · subst hc; simp [hi]
    · simp [hi, hc, Nat.add_assoc]

theorem mapM_at {α β : Type} {f : α → Option β} : ∀ {l : List α} {r : List β}, l.mapM f = some r → r.length = l.length ∧ ∀ (i : Nat) (h : i < l.length), ∃ y, f l[i] = some y ∧ r[i]? = some y
  | [], r, h => by
    simp only [List.mapM_nil, Option.pure_def, Option.some.injEq] at h
    subst h
    exact ⟨rfl, fun i h => by simp at h⟩
  | x :: xs, r, h => by
    rw [List.mapM_cons] at h
    cases hx : f x with
    | none => simp [hx] at h
    | some y =>
      cases hxs : xs.mapM f with
      | none => simp [hx, hxs] at h
      | some ys =>
        simp only [hx, hxs, Option.bind_eq_bind, Option.bind_some, Option.pure_def, Option.some.injEq] at h
        subst h
        obtain ⟨h1, h2⟩ := mapM_at hxs
        refine ⟨by simp [h1], fun i hi => ?_⟩
        cases i with
        | zero => exact ⟨y, by simpa using hx, by simp⟩
        | succ i =>
          obtain ⟨z, e1, e2⟩ := h2 i (by simpa using hi)
          exact ⟨z, by simpa using e1, by simpa using e2⟩

theorem cells_get {w : World} {base : Nat} {a : Addr} {n : Nat} {cs : List Value} (h : w.cells? base a n = some cs) : cs.length = n ∧ (0 < n → a.block < w.heap.size) ∧ ∀ c, c < n → w.cell? (a.add c) = cs[c]? := by
  unfold World.cells? at h
  split at h
  · obtain ⟨h1, h2⟩ := mapM_at h
    rw [List.length_range] at h1
    have key : ∀ c, c < n → w.cell? (a.add c) = cs[c]? := fun c hc => by
      obtain ⟨y, e1, e2⟩ := h2 c (by simpa using hc)
      rw [List.getElem_range] at e1
      rw [e1, e2]
    refine ⟨h1, fun h0 => ?_, key⟩
    obtain ⟨y, e1, _⟩ := h2 0 (by simpa using h0)
    rw [List.getElem_range] at e1
    rcases Nat.lt_or_ge a.block w.heap.size with hb | hb
    · exact hb
    · exfalso
      unfold World.cell? at e1
      rw [add_block] at e1
      rw [Array.getElem?_eq_none (by omega)] at e1
      cases e1
  · cases h

section
variable {H : Type} {enc : TypeId × Value → H} {P : Program} {w : World} {base : Nat} {spare : Nat → Bool} {held : Bool}
theorem wf_rng {k : IntKind} {n : Int} (h : (Lit.int k n).wf = true) : k.min ≤ n ∧ n ≤ k.max := by
  simpa [Lit.wf] using h

theorem trod_array {t e : TypeId} {n m : Nat} {cs : List Value} {x : DataW H × List MemPlace} (ht : P.underlying t = some (.array n e)) (h : DataW.trod enc P w base spare held (m + 1) t cs = some x) :
    cs.length = P.cellsOf t ∧ ∀ i, i < n → ∃ y, DataW.trod enc P w base spare held m e ((cs.drop (i * P.cellsOf e)).take (P.cellsOf e)) = some y := by
  unfold DataW.trod at h
  rw [ht] at h
  split at h <;> simp_all
  obtain ⟨hl, h⟩ := h
  obtain ⟨a, h, _⟩ := h
  obtain ⟨h1, h2⟩ := mapM_at h
  intro i hi
  obtain ⟨y, e1, _⟩ := h2 i (by simpa using hi)
  rw [List.getElem_range] at e1
  exact ⟨y.1, y.2, by simpa using e1⟩

def isAgg (P : Program) (t : TypeId) : Bool := match P.underlying t with
  | some (.struct _) => true
  | some (.array _ _) => true
  | _ => false

theorem Kept_same {W W' : World} (h : CX.Kept W W') {p : MemPlace} (hp : p.block < W.heap.size) : W.sameAt W' p := by
  cases p with
  | cell b off =>
    simp only [World.sameAt, World.cell?]
    rw [h.2.2.2.2 b hp]
  | map b => exact h.2.2.2.2 b hp

theorem args_stay (hl : laidOutB P = true) {W W' : World} {sp : Nat → Bool} : ∀ {ts : List TypeId} {vs : List Value} {ds : List (DataW H)} {ps : List MemPlace}, (ts.all fun t => P.readableRec t && decide (t < P.types.size)) = true →
    DataW.TrodAll enc P W base (fun _ => true) true ts vs ds ps → (∀ p ∈ ps, W.sameAt W' p) → (∀ p ∈ ps, sp p.block = true) → DataW.TrodAll enc P W' base sp true ts vs ds ps
  | [], vs, ds, ps, _, h, _, _ => by
    obtain ⟨rfl, rfl, rfl⟩ := trodAll_nil h
    exact trodAll_mk0
  | t :: ts, [], ds, ps, _, h, _, _ => by simp [DataW.TrodAll] at h
  | t :: ts, v :: vs, [], ps, _, h, _, _ => by simp [DataW.TrodAll] at h
  | t :: ts, v :: vs, d :: ds, ps, hr, h, h1, h2 => by
    obtain ⟨p, q, ha, hb, rfl⟩ := h
    simp only [List.all_cons, Bool.and_eq_true, decide_eq_true_eq] at hr
    exact ⟨p, q, Go.WideElems.Trod_stays hl hr.1.1 hr.1.2 ha (fun x hx => h1 x (by simp [hx])) (fun x hx => h2 x (by simp [hx])),
      args_stay hl (by simpa using hr.2) hb (fun x hx => h1 x (by simp [hx])) (fun x hx => h2 x (by simp [hx])), rfl⟩

end
end HB

namespace HX
open Go Go.Proofs Go.ChangeShapes Go.WideShapes Go.ChangeAt Go.RowKit CX

def descF (g : TypeId → Option (List Kd)) (P : Program) : List Field → Nat → Option (List Kd)
  | [], _ => some []
  | f :: r, off => match g f.type with
    | some ks => match beqN f.offset off && beqN (P.cellsOf f.type) ks.length with
      | true => match descF g P r (off + ks.length) with
        | some ks' => some (ks ++ ks')
        | none => none
      | false => none
    | none => none

def repK (ks : List Kd) : Nat → List Kd
  | 0 => []
  | n + 1 => ks ++ repK ks n

def desc (P : Program) : Nat → TypeId → Option (List Kd)
  | 0, _ => none
  | n + 1, t => match P.underlying t with
    | some .bool => some [.bool]
    | some (.int k) => some [.int k]
    | some .string => some [.str]
    | some (.slice e) => match desc P n e with
      | some (k :: ks) => match beqN (P.cellsOf e) (ks.length + 1) with
        | true => some [.sl (k :: ks)]
        | false => none
      | _ => none
    | some (.struct fs) => match descF (desc P n) P fs.toList 0 with
      | some ks => match beqN (P.cellsOf t) ks.length with
        | true => some ks
        | false => none
      | none => none
    | some (.array m e) => match desc P n e with
      | some ks => match beqN (P.cellsOf e) ks.length && beqN (P.cellsOf t) (repK ks m).length with
        | true => some (repK ks m)
        | false => none
      | none => none
    | _ => none

mutual
def RngK : Kd → D → Prop
  | .int k, d => k.min ≤ d.int ∧ d.int ≤ k.max
  | .str, d => ∀ b ∈ d.str, b < 256
  | .sl ks, d => ∀ row ∈ d.rows, RngL ks row
  | _, _ => True
def RngL : List Kd → List D → Prop
  | k :: ks, d :: ds => RngK k d ∧ RngL ks ds
  | _, _ => True
end

mutual
def RdK (w : World) : Kd → D → Value → Prop
  | .int k, d, u => (∃ n, d = .i n) ∧ u = .int k d.int
  | .bool, d, u => (∃ b, d = .b b) ∧ u = .bool d.boo
  | .str, d, u => (∃ s, d = .s s) ∧ u = .string (bytesOf d.str)
  | .fnc _, _, _ => False
  | .sl ks, d, u => (∃ rows, d = .l rows ∧ LenR ks rows) ∧ 0 < ks.length ∧ ((d.rows = [] ∧ u = .slice none 0 0) ∨ ∃ a cap, u = .slice (some a) d.rows.length cap ∧ d.rows.length ≤ cap ∧
      ∀ i row, d.rows[i]? = some row → ∃ cs : List Value, (∀ c, c < ks.length → w.cell? (a.add (i * ks.length + c)) = cs[c]?) ∧ RdL w ks row cs)
def RdL (w : World) : List Kd → List D → List Value → Prop
  | [], [], [] => True
  | k :: ks, d :: ds, c :: cs => RdK w k d c ∧ RdL w ks ds cs
  | _, _, _ => False
end

def Holds (w : World) (ks : List Kd) (cs : List Value) : Prop := ∃ l, RdL w ks l cs ∧ RngL ks l

theorem RdL.append {w : World} : ∀ {ks ks' : List Kd} {l l' : List D} {cs cs' : List Value}, RdL w ks l cs → RdL w ks' l' cs' → RdL w (ks ++ ks') (l ++ l') (cs ++ cs')
  | [], _, [], _, [], _, _, h => h
  | _ :: _, _, _ :: _, _, _ :: _, _, h, h' => by
    simp only [RdL, List.cons_append] at h ⊢
    exact ⟨h.1, RdL.append h.2 h'⟩
  | [], _, [], _, _ :: _, _, h, _ => by simp [RdL] at h
  | [], _, _ :: _, _, _, _, h, _ => by simp [RdL] at h
  | _ :: _, _, [], _, _, _, h, _ => by simp [RdL] at h
  | _ :: _, _, _ :: _, _, [], _, h, _ => by simp [RdL] at h

theorem RdL.len {w : World} : ∀ {ks : List Kd} {l : List D} {cs : List Value}, RdL w ks l cs → l.length = ks.length ∧ cs.length = ks.length
  | [], [], [], _ => ⟨rfl, rfl⟩
  | _ :: _, _ :: _, _ :: _, h => by
    simp only [RdL] at h
    have := RdL.len h.2
    exact ⟨by simp [this.1], by simp [this.2]⟩
  | [], [], _ :: _, h => by simp [RdL] at h
  | [], _ :: _, _, h => by simp [RdL] at h
  | _ :: _, [], _, h => by simp [RdL] at h
  | _ :: _, _ :: _, [], h => by simp [RdL] at h

theorem RngL.append : ∀ {ks ks' : List Kd} {l l' : List D}, l.length = ks.length → RngL ks l → RngL ks' l' → RngL (ks ++ ks') (l ++ l')
  | [], _, [], _, _, _, h => h
  | _ :: _, _, _ :: _, _, hl, h, h' => by
    simp only [RngL, List.cons_append] at h ⊢
    exact ⟨h.1, RngL.append (by simpa using hl) h.2 h'⟩
  | [], _, _ :: _, _, hl, _, _ => by simp at hl
  | _ :: _, _, [], _, hl, _, _ => by simp at hl

theorem Holds.append {w : World} {ks ks' : List Kd} {cs cs' : List Value} (h : Holds w ks cs) (h' : Holds w ks' cs') : Holds w (ks ++ ks') (cs ++ cs') := by
  obtain ⟨l, a, b⟩ := h
  obtain ⟨l', a', b'⟩ := h'
  exact ⟨l ++ l', a.append a', b.append a.len.1 b'⟩

theorem Holds.nil {w : World} : Holds w [] [] := ⟨[], trivial, trivial⟩

section
variable {H : Type} {enc : TypeId × Value → H} {P : Program} {w : World} {base : Nat} {spare : Nat → Bool} {held : Bool}

theorem holds_one {k : Kd} {d : D} {u : Value} (h : RdK w k d u) (hr : RngK k d) : Holds w [k] [u] := ⟨[d], ⟨h, trivial⟩, ⟨hr, trivial⟩⟩

theorem holds_rep {ks : List Kd} {cs : List Value} (m : Nat) (hl : cs.length = (repK ks m).length) (h : ∀ i, i < m → Holds w ks ((cs.drop (i * ks.length)).take ks.length)) : Holds w (repK ks m) cs := by
  induction m generalizing cs with
  | zero =>
    have : cs = [] := List.length_eq_zero_iff.1 (by simpa [repK] using hl)
    subst this
    exact Holds.nil
  | succ m ih =>
    have e : cs = cs.take ks.length ++ cs.drop ks.length := (List.take_append_drop _ _).symm
    rw [e]
    refine Holds.append (by simpa using h 0 (by omega)) (ih ?_ fun i hi => ?_)
    · simp only [List.length_drop, hl, repK, List.length_append]
      omega
    · have := h (i + 1) (by omega)
      rwa [List.drop_drop, show ks.length + i * ks.length = (i + 1) * ks.length by rw [Nat.add_mul]; omega]

theorem holds_fields {g : TypeId → Option (List Kd)} {cs : List Value} : ∀ (fs : List Field) (off : Nat) (ks : List Kd), descF g P fs off = some ks → cs.length = off + ks.length →
    (∀ f ∈ fs, ∀ ks', g f.type = some ks' → Holds w ks' ((cs.drop f.offset).take (P.cellsOf f.type))) → Holds w ks (cs.drop off)
  | [], off, ks, h, hl, _ => by
    simp only [descF, Option.some.injEq] at h
    subst h
    have : cs.drop off = [] := List.drop_eq_nil_of_le (by simp at hl; omega)
    rw [this]
    exact Holds.nil
  | f :: r, off, ks, h, hl, hf => by
    simp only [descF] at h
    split at h
    · rename_i ks1 hk
      split at h
      · rename_i hb
        simp only [Bool.and_eq_true, beqN_iff] at hb
        split at h
        · rename_i ks2 hks2
          simp only [Option.some.injEq] at h
          subst h
          have e : cs.drop off = (cs.drop off).take ks1.length ++ (cs.drop off).drop ks1.length := (List.take_append_drop _ _).symm
          rw [e]
          refine Holds.append ?_ ?_
          · have := hf f (by simp) ks1 hk
            rwa [hb.1, hb.2] at this
          · rw [List.drop_drop]
            exact holds_fields r (off + ks1.length) ks2 hks2 (by rw [hl, List.length_append]; omega) (fun f' hf' => hf f' (by simp [hf']))
        · cases h
      · cases h
    · cases h

theorem bytes_of (z : ByteArray) : bytesOf (z.data.toList.map UInt8.toNat) = z := by
  obtain ⟨d⟩ := z
  simp only [bytesOf, List.map_map]
  congr 1
  have : (UInt8.ofNat ∘ UInt8.toNat) = id := by funext x; simp
  rw [this]
  simp

theorem holds_of_trod : ∀ (n : Nat) (t : TypeId) (ks : List Kd), desc P n t = some ks → ∀ (m : Nat) (cs : List Value) (x : DataW H × List MemPlace), DataW.trod enc P w base spare held m t cs = some x → Holds w ks cs
  | 0, _, _, h, _, _, _, _ => by simp [desc] at h
  | n + 1, t, ks, h, m, cs, x, hx => by
    unfold desc at h
    split at h
    · rename_i hu
      simp only [Option.some.injEq] at h
      subst h
      obtain ⟨b, rfl, _⟩ := DataW.trod_bool hu hx
      exact holds_one (d := .b b) ⟨⟨_, rfl⟩, rfl⟩ trivial
    · rename_i k hu
      simp only [Option.some.injEq] at h
      subst h
      obtain ⟨z, rfl, _, hw⟩ := DataW.trod_int hu hx
      exact holds_one (d := .i z) ⟨⟨_, rfl⟩, rfl⟩ (HB.wf_rng hw)
    · rename_i hu
      simp only [Option.some.injEq] at h
      subst h
      obtain ⟨z, rfl, _, _⟩ := DataW.trod_string hu hx
      refine holds_one (d := .s (z.data.toList.map UInt8.toNat)) ⟨⟨_, rfl⟩, ?_⟩ ?_
      · show Value.string z = .string (bytesOf (z.data.toList.map UInt8.toNat))
        rw [bytes_of]
      · intro b hb
        obtain ⟨x, _, rfl⟩ := List.mem_map.1 (show b ∈ z.data.toList.map UInt8.toNat from hb)
        exact x.toNat_lt
    · rename_i e hu
      split at h
      · rename_i k ks' hd
        split at h
        · rename_i hb
          have hb : P.cellsOf e = ks'.length + 1 := by rw [beqN_iff] at hb; exact hb
          simp only [Option.some.injEq] at h
          subst h
          rcases DataW.trod_slice hu hx with ⟨rfl, _⟩ | ⟨a, len, cap, elems, rest, m', rfl, rfl, _, _, h2, h3, h4, h5, _, _⟩
          · exact holds_one (d := .l []) ⟨⟨_, rfl, fun _ h => (by cases h), by simp⟩, by simp, .inl ⟨rfl, rfl⟩⟩ (fun _ h => (by cases h))
          · have row : ∀ i, i < len → ∃ l cs', (∀ c, c < ks'.length + 1 → w.cell? (a.add (i * (ks'.length + 1) + c)) = cs'[c]?) ∧ RdL w (k :: ks') l cs' ∧ RngL (k :: ks') l := by
              intro i hi
              have e1 := h5 i hi
              rw [List.getElem?_eq_getElem (by omega)] at e1
              obtain ⟨cs', c1, c2⟩ := Option.bind_eq_some_iff.1 e1
              obtain ⟨d1, d2, d3⟩ := HB.cells_get c1
              rw [hb] at d1 d2 d3 c1
              obtain ⟨l, g1, g2⟩ := holds_of_trod n e (k :: ks') hd m' cs' _ c2
              refine ⟨l, cs', fun c hc => ?_, g1, g2⟩
              rw [← d3 c hc, HB.addr_add2]
            let rows : Rows := (List.range len).map fun i => if h : i < len then Classical.choose (row i h) else []
            have hlen : rows.length = len := by simp [rows]
            have hget : ∀ i r, rows[i]? = some r → ∃ h : i < len, r = Classical.choose (row i h) := by
              intro i r hr
              have hi : i < len := by rw [← hlen]; exact (List.getElem?_eq_some_iff.1 hr).1
              refine ⟨hi, ?_⟩
              simp only [rows, List.getElem?_map, List.getElem?_range hi, Option.map_some, Option.some.injEq] at hr
              rw [← hr, dif_pos hi]
            refine holds_one (d := .l rows) ⟨⟨_, rfl, fun r hr => ?_, ?_⟩, by simp, .inr ⟨a, cap, ?_, ?_, fun i r hr => ?_⟩⟩ (fun r hr => ?_)
            · obtain ⟨i, hi⟩ := List.getElem?_of_mem hr
              obtain ⟨h, rfl⟩ := hget i r hi
              obtain ⟨_, _, h6, _⟩ := Classical.choose_spec (row i h)
              exact h6.len.1
            · have h3 : cap ≤ 9223372036854775807 := h3
              rw [hlen]; omega
            · show Value.slice (some a) len cap = .slice (some a) rows.length cap
              rw [hlen]
            · show rows.length ≤ cap
              rw [hlen]; exact h2
            · obtain ⟨h, rfl⟩ := hget i r hr
              obtain ⟨cs', h5', h6, _⟩ := Classical.choose_spec (row i h)
              exact ⟨cs', fun c hc => h5' c (by simpa using hc), h6⟩
            · obtain ⟨i, hi⟩ := List.getElem?_of_mem (show r ∈ rows from hr)
              obtain ⟨h, rfl⟩ := hget i r hi
              obtain ⟨_, _, _, h7⟩ := Classical.choose_spec (row i h)
              exact h7
        · cases h
      · cases h
    · rename_i fs hu
      split at h
      · rename_i ks' hd
        split at h
        · rename_i hb
          rw [beqN_iff] at hb
          simp only [Option.some.injEq] at h
          subst h
          obtain ⟨xs, m', rfl, _, hl, hxs, hf⟩ := DataW.trod_struct hu hx
          have := holds_fields (w := w) (cs := cs) fs.toList 0 ks' hd (by rw [hl, hb]; simp) (fun f hm ks1 hk1 => ?_)
          · simpa using this
          · obtain ⟨i, hi, rfl⟩ := List.mem_iff_getElem.1 hm
            have hi' : i < fs.size := by simpa using hi
            have e1 := hf i fs[i] (by simp [hi'])
            rw [List.getElem?_eq_getElem (by omega)] at e1
            have e2 : fs.toList[i] = fs[i] := by simp
            rw [e2] at hk1 ⊢
            exact holds_of_trod n _ ks1 hk1 m' _ _ e1
        · cases h
      · cases h
    · rename_i m0 e hu
      split at h
      · rename_i ks' hd
        split at h
        · rename_i hb
          simp only [Bool.and_eq_true, beqN_iff] at hb
          simp only [Option.some.injEq] at h
          subst h
          cases m with
          | zero => simp [DataW.trod] at hx
          | succ m' =>
            obtain ⟨hl, hi⟩ := HB.trod_array hu hx
            refine holds_rep m0 (by rw [hl, hb.2]) fun i h => ?_
            obtain ⟨y, hy⟩ := hi i h
            rw [hb.1] at hy
            exact holds_of_trod n e ks' hd m' _ y hy
        · cases h
      · cases h
    · cases h


def strOf (z : ByteArray) : List Nat := z.data.toList.map UInt8.toNat

def valOf : Value → Option V
  | .int k n => some (.int k n)
  | .bool b => some (.bool b)
  | .string z => some (.str (strOf z))
  | .slice none 0 0 => some .nils
  | .slice (some a) n cap => if n ≤ cap then some (.rslc a n cap) else none
  | _ => none

noncomputable def roOf (w : World) (a : Addr) : Option V := match w.cell? a with
  | some u => valOf u
  | none => none

theorem valOf_rv {u : Value} {v : V} (h : valOf u = some v) : one1 v = true ∧ ∀ ρ n, Rv ρ n v u := by
  unfold valOf at h
  split at h
  · cases h; exact ⟨rfl, fun _ _ => by simp only [Rv]⟩
  · cases h; exact ⟨rfl, fun _ _ => by simp only [Rv]⟩
  · cases h
    rename_i z
    refine ⟨rfl, fun _ _ => ?_⟩
    simp only [Rv]
    refine ⟨fun b hb => ?_, by rw [strOf, bytes_of]⟩
    obtain ⟨x, _, rfl⟩ := List.mem_map.1 (show b ∈ z.data.toList.map UInt8.toNat from hb)
    exact x.toNat_lt
  · cases h; exact ⟨rfl, fun _ _ => by simp only [Rv]⟩
  · split at h
    · rename_i hle
      cases h
      exact ⟨rfl, fun _ _ => by simp only [Rv]; exact ⟨hle, trivial⟩⟩
    · cases h
  · cases h

theorem roOf_ok (w : World) : RoAt (roOf w) w := by
  intro a v h
  unfold roOf at h
  split at h
  · rename_i u hu
    obtain ⟨h1, h2⟩ := valOf_rv h
    exact ⟨h1, u, hu, fun ρ n => h2 ρ n⟩
  · cases h

theorem str_bytes {s : List Nat} (h : ∀ b ∈ s, b < 256) : strOf (bytesOf s) = s := by
  simp only [strOf, bytesOf, List.map_map]
  induction s with
  | nil => rfl
  | cons b s ih =>
    have hb := h b (.head _)
    simp only [List.map_cons, Function.comp_apply, UInt8.toNat_ofNat', List.cons.injEq]
    exact ⟨Nat.mod_eq_of_lt hb, ih fun x hx => h x (.tail _ hx)⟩

mutual
theorem rdK_fz {g : Nat → Option O} {B : Nat} : ∀ (k : Kd) (d : D) (u : Value), RdK w k d u → RngK k d → ∃ v, valOf u = some v ∧ FzC (roOf w) g B k d v
  | .int k, d, u, h, _ => by
    simp only [RdK] at h
    obtain ⟨⟨n, rfl⟩, rfl⟩ := h
    exact ⟨_, rfl, by simp only [FzC]; exact ⟨⟨_, rfl⟩, trivial⟩⟩
  | .bool, d, u, h, _ => by
    simp only [RdK] at h
    obtain ⟨⟨n, rfl⟩, rfl⟩ := h
    exact ⟨_, rfl, by simp only [FzC]; exact ⟨⟨_, rfl⟩, trivial⟩⟩
  | .str, d, u, h, hr => by
    simp only [RdK] at h
    obtain ⟨⟨n, rfl⟩, rfl⟩ := h
    simp only [RngK, D.str] at hr
    refine ⟨_, rfl, ?_⟩
    simp only [FzC, D.str, str_bytes hr]
    exact ⟨⟨_, rfl⟩, trivial⟩
  | .sl ks, d, u, h, hr => by
    simp only [RdK] at h
    obtain ⟨⟨rows, rfl, hl⟩, hpos, h⟩ := h
    simp only [RngK, D.rows] at hr h
    rcases h with ⟨rfl, rfl⟩ | ⟨a, cap, rfl, hcap, hrow⟩
    · exact ⟨.nils, rfl, by simp only [FzC]; exact ⟨⟨_, rfl, hl⟩, .inl ⟨rfl, trivial⟩⟩⟩
    · refine ⟨.rslc a rows.length cap, by simp only [valOf]; rw [if_pos hcap], ?_⟩
      simp only [FzC, D.rows]
      refine ⟨⟨_, rfl, hl⟩, .inr (.inr ⟨a, cap, rfl, hpos, hcap, fun i hi => ?_⟩)⟩
      obtain ⟨cs, c1, c2⟩ := hrow i rows[i] (List.getElem?_eq_getElem hi)
      have hg := hr rows[i] (List.getElem_mem hi)
      refine FzR.of _ _ _ _ fun j k hk => ?_
      have hj : j < ks.length := (List.getElem?_eq_some_iff.1 hk).1
      obtain ⟨v, e1, e2⟩ := rdL_fz (g := g) (B := B) ks rows[i] cs c2 hg j k hk
      refine ⟨v, ?_, ?_⟩
      · simp only [roOf, Nat.zero_add, c1 j hj]
        revert e1
        cases cs[j]? with
        | none => intro e1; cases e1
        | some u => intro e1; exact e1
      · have : gt rows i (0 + j) = rows[i].getD j .nil := by simp [gt, List.getD_eq_getElem?_getD, hi]
        rw [this]; exact e2
theorem rdL_fz {g : Nat → Option O} {B : Nat} : ∀ (ks : List Kd) (l : List D) (cs : List Value), RdL w ks l cs → RngL ks l → ∀ j k, ks[j]? = some k → ∃ v, (cs[j]?).bind valOf = some v ∧ FzC (roOf w) g B k (l.getD j .nil) v
  | [], _, _, _, _, j, k, hk => by simp at hk
  | k0 :: ks, d :: l, c :: cs, h, hr, 0, k, hk => by
    simp only [RdL] at h
    simp only [RngL] at hr
    simp only [List.getElem?_cons_zero, Option.some.injEq] at hk
    subst hk
    obtain ⟨v, a, b⟩ := rdK_fz (g := g) (B := B) k0 d c h.1 hr.1
    exact ⟨v, by simpa using a, by simpa using b⟩
  | k0 :: ks, d :: l, c :: cs, h, hr, j + 1, k, hk => by
    simp only [RdL] at h
    simp only [RngL] at hr
    obtain ⟨v, a, b⟩ := rdL_fz (g := g) (B := B) ks l cs h.2 hr.2 j k (by simpa using hk)
    exact ⟨v, by simpa using a, by simpa using b⟩
  | _ :: _, [], _, h, _, _, _, _ => by simp [RdL] at h
  | _ :: _, _ :: _, [], h, _, _, _, _ => by simp [RdL] at h
end

theorem rdL_vals {g : Nat → Option O} {B : Nat} {ρ : Nm} {n : Nat} : ∀ (ks : List Kd) (l : List D) (cs : List Value), RdL w ks l cs → RngL ks l →
    ∃ x : List V, x.length = ks.length ∧ (∀ j k, ks[j]? = some k → ∃ u, x[j]? = some u ∧ FzC (roOf w) g B k (l.getD j .nil) u) ∧ RvL ρ n x cs
  | [], [], [], _, _ => ⟨[], rfl, fun j k h => by simp at h, by simp [RvL]⟩
  | k :: ks, d :: l, c :: cs, h, hr => by
    simp only [RdL] at h
    simp only [RngL] at hr
    obtain ⟨v, a, b⟩ := rdK_fz (g := g) (B := B) k d c h.1 hr.1
    obtain ⟨x, e1, e2, e3⟩ := rdL_vals (g := g) (B := B) (ρ := ρ) (n := n) ks l cs h.2 hr.2
    refine ⟨v :: x, by simp [e1], fun j k' hk => ?_, by simp only [RvL]; exact ⟨(valOf_rv a).2 ρ n, e3⟩⟩
    cases j with
    | zero =>
      simp only [List.getElem?_cons_zero, Option.some.injEq] at hk
      subst hk
      exact ⟨v, rfl, by simpa using b⟩
    | succ j => simpa using e2 j k' (by simpa using hk)
  | [], [], _ :: _, h, _ => by simp [RdL] at h
  | [], _ :: _, _, h, _ => by simp [RdL] at h
  | _ :: _, [], _, h, _ => by simp [RdL] at h
  | _ :: _, _ :: _, [], h, _ => by simp [RdL] at h

def descAll (P : Program) (n : Nat) : List TypeId → Option (List (Bool × List Kd))
  | [] => some []
  | t :: r => match desc P n t, descAll P n r with
    | some ks, some l => some ((HB.isAgg P t, ks) :: l)
    | _, _ => none

def RngAll : List (Bool × List Kd) → List (List D) → Prop
  | (_, ks) :: r, d :: ds => RngL ks d ∧ RngAll r ds
  | _, _ => True

def trueRes (_ : List (List D)) (_ _ : Nat) : D := .b true

def ArgsRd (w : World) : List (Bool × List Kd) → List (List D) → List Value → Prop
  | [], [], [] => True
  | (g, ks) :: r, d :: ds, v :: vs => (RdL w ks d v.cells.toList ∧ (g = true → v = .agg (v.cells.toList).toArray) ∧ (g = false → v.cells.toList = [v])) ∧ ArgsRd w r ds vs
  | _, _, _ => False

theorem args_fz {g : Nat → Option O} {B : Nat} {ρ : Nm} {n : Nat} : ∀ (ps : List (Bool × List Kd)) (ds : List (List D)) (vs : List Value), ArgsRd w ps ds vs → RngAll ps ds → ∃ x : List V, ArgsFz (roOf w) g B ps ds x ∧ RvL ρ n x vs
  | [], [], [], _, _ => ⟨[], trivial, by simp [RvL]⟩
  | (a, ks) :: ps, d :: ds, v :: vs, h, hr => by
    obtain ⟨⟨h1, h2, h3⟩, h4⟩ := h
    obtain ⟨x, e1, e2, e3⟩ := rdL_vals (g := g) (B := B) (ρ := ρ) (n := n) ks d _ h1 hr.1
    obtain ⟨xs, f1, f2⟩ := args_fz (g := g) (B := B) (ρ := ρ) (n := n) ps ds vs h4 hr.2
    cases a with
    | true => exact ⟨.agg x :: xs, ⟨h1.len.1, ⟨x, e1, e2, rfl⟩, f1⟩, by simp only [RvL, Rv]; exact ⟨⟨_, e3, h2 rfl⟩, f2⟩⟩
    | false =>
      rw [h3 rfl] at e3
      match x, e3 with
      | [y], e3 =>
        simp only [RvL, and_true] at e3
        exact ⟨y :: xs, ⟨h1.len.1, ⟨[y], e1, e2, y, rfl, rfl⟩, f1⟩, by simp only [RvL]; exact ⟨e3, f2⟩⟩
      | [], e3 => simp [RvL] at e3
      | _ :: _ :: _, e3 => simp [RvL] at e3
  | [], [], _ :: _, h, _ => h.elim
  | [], _ :: _, _, h, _ => h.elim
  | _ :: _, [], _, h, _ => h.elim
  | _ :: _, _ :: _, [], h, _ => h.elim

theorem shape_of {r : Reach} {n : Nat} {t : TypeId} {ks : List Kd} {v : Value} (hd : desc P n t = some ks) (h : Value.okWide P w r base t v) :
    (HB.isAgg P t = true → v = .agg (v.cells.toList).toArray) ∧ (HB.isAgg P t = false → v.cells.toList = [v]) := by
  cases n with
  | zero => simp [desc] at hd
  | succ n =>
    unfold desc at hd
    unfold HB.isAgg
    split at hd
    · rename_i hu
      obtain ⟨b, rfl⟩ := okWide_bool hu h
      rw [hu]
      exact ⟨fun h => (by cases h), fun _ => rfl⟩
    · rename_i k hu
      obtain ⟨z, rfl⟩ := okWide_int hu h
      rw [hu]
      exact ⟨fun h => (by cases h), fun _ => rfl⟩
    · rename_i hu
      obtain ⟨z, rfl⟩ := okWide_string hu h
      rw [hu]
      exact ⟨fun h => (by cases h), fun _ => rfl⟩
    · rename_i e hu
      obtain ⟨a, l, c, rfl⟩ := okWide_slice hu h
      rw [hu]
      exact ⟨fun h => (by cases h), fun _ => rfl⟩
    · rename_i fs hu
      obtain ⟨cs, rfl, _⟩ := okWide_struct hu h
      rw [hu]
      exact ⟨fun _ => by simp [Value.cells], fun h => by cases h⟩
    · rename_i m e hu
      have : ∃ cs, v = .agg cs := by
        unfold Value.okWide at h
        rw [hu] at h
        obtain ⟨cs, hc, _⟩ := h
        exact ⟨cs, hc⟩
      obtain ⟨cs, rfl⟩ := this
      rw [hu]
      exact ⟨fun _ => by simp [Value.cells], fun h => by cases h⟩
    · cases hd

theorem args_read {r : Reach} {n : Nat} : ∀ (ts : List TypeId) (params : List (Bool × List Kd)) (vs : List Value) (ds : List (DataW H)) (ps : List MemPlace), descAll P n ts = some params →
    (∀ (j : Nat) t v, ts[j]? = some t → vs[j]? = some v → Value.okWide P w r base t v) → DataW.TrodAll enc P w 0 spare held ts vs ds ps →
    ∃ dss, ArgsRd w params dss vs ∧ RngAll params dss
  | [], params, vs, ds, ps, hd, _, h => by
    simp only [descAll, Option.some.injEq] at hd
    subst hd
    obtain ⟨rfl, _, _⟩ := trodAll_nil h
    exact ⟨[], trivial, trivial⟩
  | t :: ts, params, vs, ds, ps, hd, hok, h => by
    unfold descAll at hd
    split at hd
    · rename_i ks l hks hl
      simp only [Option.some.injEq] at hd
      subst hd
      cases vs with
      | nil => simp [DataW.TrodAll] at h
      | cons v vs =>
        cases ds with
        | nil => simp [DataW.TrodAll] at h
        | cons d ds =>
          obtain ⟨p, q, ⟨m, hm⟩, h2, _⟩ := h
          obtain ⟨f, g1, g2⟩ := holds_of_trod n t ks hks m _ _ hm
          obtain ⟨dss, i1, i2⟩ := args_read ts l vs ds q hl (fun j t' v' ht hv => hok (j + 1) t' v' (by simpa using ht) (by simpa using hv)) h2
          obtain ⟨s1, s2⟩ := shape_of hks (hok 0 t v (by simp) (by simp))
          exact ⟨f :: dss, ⟨⟨g1, s1, s2⟩, i1⟩, g2, i2⟩
    · cases hd
end

section
variable {H : Type} {enc : TypeId × Value → H} {P : Program}

theorem said {fnum : FuncId} {f : Func} {s : ChangeSpec} {fresh handsOn again : Bool} {n : Nat} {params : List (Bool × List Kd)} {tb : TypeId}
    (hE : ∀ ro, CX.EnvOk (cxE ro) P) (hpure : ∀ ro, PureC0 (cxE ro) fnum ⟨params, [(false, [.bool])], false⟩ (RngAll params) trueRes) (hd : descAll P n f.params.toList = some params) (hl : laidOutB P = true)
    (hr : (f.params.toList.all fun t => P.readableRec t && decide (t < P.types.size)) = true) (hres : f.resultTypes = #[tb]) (hb : P.underlying tb = some .bool)
    (hs : ∀ ds : List (DataW H), ds.length = f.params.toList.length → s.fn H ds = ⟨[.lit (.bool true)], ds, []⟩) (hv : s.vars = []) {apart : Bool} (W : World) (base : Nat) (args : Array Value) (ds gs : List (DataW H)) (before : List MemPlace)
    (hval : ∀ (j : Nat) t v, f.params[j]? = some t → args[j]? = some v → Value.okWide P W .any base t v) (hW : DataW.Whole enc P f.params.toList s.vars apart W args.toList ds gs before) :
    Calls P fnum args W fun e W' => ∃ v, e = .returned v ∧ s.post enc P f apart fresh handsOn again W args v W' := by
  have hW' := hW
  obtain ⟨p, q, hA, hV, rfl, _, _⟩ := hW
  rw [hv] at hV
  obtain ⟨rfl, rfl⟩ := trodVars_none hV
  obtain ⟨dss, h1, h2⟩ := args_read (r := .any) (base := base) f.params.toList params args.toList ds p hd (fun j t v ht hv => hval j t v (by simpa using ht) (by simpa using hv)) hA
  have hlen := (trodAll_length hA).2
  have hfn : s.fn H (ds ++ []) = ⟨[.lit (.bool true)], ds, []⟩ := by rw [List.append_nil]; exact hs ds hlen
  obtain ⟨xs, x1, x2⟩ := args_fz (g := fun _ => none) (B := 0) (ρ := fun _ => none) (n := 0) params dss args.toList h1 h2
  obtain ⟨vs, h', nx', g', ⟨n0, hrun⟩, hresF⟩ := hpure (roOf W) dss h2 xs x1
  have hvs : vs = [.bool true] := by
    match vs, hresF with
    | [v], hresF =>
      obtain ⟨⟨x, _, e2, u, rfl, rfl⟩, _⟩ := hresF
      obtain ⟨u, e3, e4⟩ := e2 0 .bool rfl
      simp only [List.getElem?_cons_zero, Option.some.injEq] at e3
      subst e3
      simp only [FzC] at e4
      rw [e4.2]; rfl
    | [], hresF => simp [ResFz] at hresF
    | _ :: _ :: _, hresF => simp [ResFz] at hresF
  subst hvs
  have hcall := call_ro (hE (roOf W)) (w := W) (roOf_ok W) x2 (hrun n0 (Nat.le_refl _) retV)
  rw [show args.toList.toArray = args by simp] at hcall
  refine hcall.mono fun e W' h => ?_
  obtain ⟨u, ρ, m, rfl, hu, hk⟩ := h
  simp only [CX.one, Rv] at hu
  subst hu
  have hlt := hW'.lt
  simp only [List.append_nil] at hW' hlt
  refine ⟨_, rfl, CX.post_kept (pa := p) (pv := []) hW' (fun b sp hd => ?_) (fun sp hsp => ?_) (fun sp _ => ?_) (by simp) hk (ok_one hres rfl (okWide_bool_mk hb _))⟩
  · rw [hfn, hres]
    exact trodAll_mk1 (shut_bool hb _)
  · rw [hfn]
    exact HB.args_stay hl hr hA (fun x hx => HB.Kept_same hk (hlt x hx)) (fun x hx => hsp x hx)
  · rw [hfn, hv]
    rfl
end
end HX

namespace HX
open Go Go.Proofs
theorem own : ownKnob Tryz.prog.godebug = none := by kernel_rfl
theorem laid : laidOutB Tryz.prog = true := by kernel_rfl
end HX

namespace HX
open Go Go.Proofs CX

inductive Ctrs (E : CX.Env) : List Ctr → Prop
  | nil : Ctrs E []
  | cons {c : Ctr} {l : List Ctr} (h : PureC E c.f c.sg c.pre c.res) (r : Ctrs E l) : Ctrs E (c :: l)

theorem Ctrs.find {E : CX.Env} : ∀ {l : List Ctr}, Ctrs E l → ∀ {f : Nat} {sg : Sig}, sigL (sigs l) f = some sg → PureC E f sg (preOf l f) (resOf l f)
  | [], _, f, sg, h => by simp [sigL, sigs, look] at h
  | c :: l, .cons h1 h2, f, sg, h => by
    simp only [sigL, sigs, List.map_cons] at h
    rw [look_cons] at h
    split at h
    · rename_i e
      simp only [Option.some.injEq] at h
      subst e h
      have e1 : preOf (c :: l) c.f = c.pre := by funext ds; simp [preOf, ctrOf]
      have e2 : resOf (c :: l) c.f = c.res := by funext ds; simp [resOf, ctrOf]
      rw [e1, e2]; exact h1
    · rename_i e
      have e1 : preOf (c :: l) f = preOf l f := by funext ds; simp [preOf, ctrOf, e]
      have e2 : resOf (c :: l) f = resOf l f := by funext ds; simp [resOf, ctrOf, e]
      rw [e1, e2]
      exact h2.find h

theorem envL {ro : Addr → Option V} {l : List Ctr} (h : Ctrs (cxE ro) l) : EnvOk ⟨Ar.std, cxE ro, ksF, sigL (sigs l), preOf l, resOf l⟩ := hxEnv fun _ _ hs => h.find hs
end HX

namespace HX
open Go Go.Proofs CX

def BOU : Bool × List Kd := (false, [.sl [.int .i64, .int .i64, .int .i64]])
def within (r : List D) : Bool := decide ((r.getD 1 .nil).int ≤ (r.getD 0 .nil).int) && decide ((r.getD 0 .nil).int ≤ (r.getD 2 .nil).int)
def holdRes : List (List D) → Nat → Nat → D
  | [[.l a]], _, _ => .b (a.all within)
  | _, _, _ => .nil

set_option maxHeartbeats 1000000 in
theorem hold_pure {ro A pre fn} (hE : EnvOk ⟨A, (cxE ro), ksF, sigL [], pre, fn⟩) : PureC (cxE ro) 51 ⟨[BOU], [BOOL], false⟩ (fun _ => True) holdRes := by
  have hA := hE.A
  simp only [] at hA
  have hinl : ∀ f fn, inlL [(96, Tryz.f96), (97, Tryz.f97), (121, Tryz.f121)] f = some fn → (cxE ro).fn f = some fn ∧ (cxE ro).ext f = none := Inls.ok (by repeat (first | exact .nil | refine .cons rfl rfl ?_))
  refine PureC.of_vc hE hinl 4 (f := 51) (fn := Tryz.f51) ⟨rfl, rfl⟩ ?_
  intro a ha _
  obtain ⟨R, hR⟩ : ∃ R, holdRes [[.l a]] = R := ⟨_, rfl⟩
  rw [hR]
  have hR' : R 0 0 = .b (a.all within) := by rw [← hR]; rfl
  have hlen := ha.2
  clear hR
  cbv
  repeat' (first | (refine Br.mk (fun _ => ?_) (fun _ => ?_) <;> cbv) | (refine NilB.mk (fun _ => ?_) ?_ <;> cbv) | refine And.intro ?_ ?_ | exact True.intro)
  refine loopA hE hinl 2 [4] [] (fun r : Nat => [.i (r : Int)]) (fun r => r ≤ a.length ∧ (a.take r).all within = true) (fun r => a.length - r) 0 ⟨Nat.zero_le _, by simp⟩ ?_ ?_
  · cbv
    exact ⟨rfl, trivial⟩
  · intro r ⟨hr1, hr2⟩ K hK
    cbv
    repeat' (first | (refine Br.mk (fun _ => ?_) (fun _ => ?_) <;> cbv) | (refine NilB.mk (fun _ => ?_) ?_ <;> cbv) | refine And.intro ?_ ?_ | exact True.intro)
    · clear hE hK hinl; (subst hA; simp only [Ar.std, Int.ofNat_eq_natCast, Int.toNat_natCast, Bool.not_eq_true', Bool.not_eq_false', decide_eq_true_eq, decide_eq_false_iff_not] at *); omega
    · clear hE hK hinl; (subst hA; simp only [Ar.std, Int.ofNat_eq_natCast, Int.toNat_natCast, Bool.not_eq_true', Bool.not_eq_false', decide_eq_true_eq, decide_eq_false_iff_not] at *); omega
    · clear hE hK hinl
      (subst hA; simp only [Ar.std, Int.ofNat_eq_natCast, Int.toNat_natCast, Bool.not_eq_true', Bool.not_eq_false', decide_eq_true_eq, decide_eq_false_iff_not] at *)
      rw [hR', all_not (r := r) (by omega)]
      · simp
      · simp only [within, Bool.and_eq_false_iff, decide_eq_false_iff_not]
        simp only [gt] at *; omega
    · clear hE hK hinl
      (subst hA; simp only [Ar.std, Int.ofNat_eq_natCast, Int.toNat_natCast, Bool.not_eq_true', Bool.not_eq_false', decide_eq_true_eq, decide_eq_false_iff_not] at *)
      rw [hR', all_not (r := r) (by omega)]
      · simp
      · simp only [within, Bool.and_eq_false_iff, decide_eq_false_iff_not]
        simp only [gt] at *; omega
    · clear hE hK hinl; (subst hA; simp only [Ar.std, Int.ofNat_eq_natCast, Int.toNat_natCast, Bool.not_eq_true', Bool.not_eq_false', decide_eq_true_eq, decide_eq_false_iff_not] at *); rw [i64_in]; omega
    · refine hK (r + 1) _ ⟨?_, ?_⟩ ?_ ?_
      · clear hE hK hinl; (subst hA; simp only [Ar.std, Int.ofNat_eq_natCast, Int.toNat_natCast, Bool.not_eq_true', Bool.not_eq_false', decide_eq_true_eq, decide_eq_false_iff_not] at *); omega
      · clear hE hK hinl; (subst hA; simp only [Ar.std, Int.ofNat_eq_natCast, Int.toNat_natCast, Bool.not_eq_true', Bool.not_eq_false', decide_eq_true_eq, decide_eq_false_iff_not] at *)
        refine all_next hr2 (by omega) ?_
        simp only [within, Bool.and_eq_true, decide_eq_true_eq]
        simp only [gt] at *; omega
      · clear hE hK hinl; (subst hA; simp only [Ar.std, Int.ofNat_eq_natCast, Int.toNat_natCast, Bool.not_eq_true', Bool.not_eq_false', decide_eq_true_eq, decide_eq_false_iff_not] at *); omega
      · clear hE hK hinl hR' hr1 hr2
        cbv
        subst hA
        exact ⟨rfl, trivial⟩
    · clear hE hK hinl; (subst hA; simp only [Ar.std, Int.ofNat_eq_natCast, Int.toNat_natCast, Bool.not_eq_true', Bool.not_eq_false', decide_eq_true_eq, decide_eq_false_iff_not] at *)
      rw [hR', ← List.take_of_length_le (show a.length ≤ r by omega), hr2]
      simp
end HX

namespace HX
open Go Go.Proofs CX

def BS : Bool × List Kd := (false, [.sl [.bool]])
def EVS : Bool × List Kd := (false, [.sl [.int .i64, .int .i64]])
def eqPre : List (List D) → Prop
  | [x, y] => x = y
  | _ => False
def yes (_ : List (List D)) (_ _ : Nat) : D := .b true

set_option maxHeartbeats 1000000 in
theorem events_pure {ro A pre fn} (hE : EnvOk ⟨A, (cxE ro), ksF, sigL [], pre, fn⟩) : PureC (cxE ro) 21 ⟨[EVS, EVS], [BOOL], false⟩ eqPre yes := by
  have hA := hE.A
  simp only [] at hA
  refine PureC.of_vc hE (inl := inlL []) inl0 0 (f := 21) (fn := Tryz.f21) ⟨rfl, rfl⟩ ?_
  intro a ha b hb hpre
  have hab : a = b := by simpa [eqPre] using hpre
  subst hab
  have hlen := ha.2
  clear hpre ha hb
  generalize hR : yes = R
  have hR' : ∀ x, R x 0 0 = .b true := fun x => by rw [← hR]; rfl
  clear hR
  cbv
  repeat' (first | (refine Br.mk (fun _ => ?_) (fun _ => ?_) <;> cbv) | (refine NilB.mk (fun _ => ?_) ?_ <;> cbv) | refine And.intro ?_ ?_ | exact True.intro)
  all_goals first
    | (clear hE; subst hA; simp [Ar.std, hR'] at *; done)
    | skip
  refine loopA hE (inl := inlL []) inl0 0 [4] [] (fun r : Nat => [.i (r : Int)]) (fun r => r ≤ a.length) (fun r => a.length - r) 0 (Nat.zero_le _) ?_ ?_
  · cbv
    exact ⟨rfl, trivial⟩
  · intro r hr K hK
    cbv
    repeat' (first | (refine Br.mk (fun _ => ?_) (fun _ => ?_) <;> cbv) | (refine NilB.mk (fun _ => ?_) ?_ <;> cbv) | refine And.intro ?_ ?_ | exact True.intro)
    all_goals first
      | (clear hE hK; (subst hA; simp only [Ar.std, Int.ofNat_eq_natCast, Int.toNat_natCast, Bool.not_eq_true', Bool.not_eq_false', decide_eq_true_eq, decide_eq_false_iff_not] at *); first | omega | (rw [i64_in]; omega) | (simp at *; done) | (simp [hR']; done))
      | skip
    refine hK (r + 1) _ ?_ ?_ ?_
    · clear hE hK; (subst hA; simp only [Ar.std, Int.ofNat_eq_natCast, Int.toNat_natCast, Bool.not_eq_true', Bool.not_eq_false', decide_eq_true_eq, decide_eq_false_iff_not] at *); omega
    · clear hE hK; (subst hA; simp only [Ar.std, Int.ofNat_eq_natCast, Int.toNat_natCast, Bool.not_eq_true', Bool.not_eq_false', decide_eq_true_eq, decide_eq_false_iff_not] at *); omega
    · try dsimp only
      clear hE hK hR'
      cbv
      subst hA
      exact ⟨rfl, trivial⟩

def NET : Bool × List Kd := (true, [.sl [.int .i64, .int .i64, .int .i64, .int .i64, .int .i64, .int .i64, .int .i64, .int .i64], .int .i64, .sl [.int .i64, .int .i64, .int .i64, .int .i64]])

set_option maxHeartbeats 2000000 in
theorem nets_pure {ro A pre fn} (hE : EnvOk ⟨A, (cxE ro), ksF, sigL [], pre, fn⟩) : PureC (cxE ro) 34 ⟨[NET, NET], [BOOL], false⟩ eqPre yes := by
  have hA := hE.A
  simp only [] at hA
  refine PureC.of_vc hE (inl := inlL []) inl0 0 (f := 34) (fn := Tryz.f34) ⟨rfl, rfl⟩ ?_
  intro a ha n b hb a' ha' n' b' hb' hpre
  have hab : a = a' ∧ n = n' ∧ b = b' := by simpa [eqPre] using hpre
  obtain ⟨rfl, rfl, rfl⟩ := hab
  have hlen := ha.2
  have hlen' := hb.2
  clear hpre ha hb ha' hb'
  generalize hR : yes = R
  have hR' : ∀ x, R x 0 0 = .b true := fun x => by rw [← hR]; rfl
  clear hR
  cbv
  repeat' (first | (refine Br.mk (fun _ => ?_) (fun _ => ?_) <;> cbv) | (refine NilB.mk (fun _ => ?_) ?_ <;> cbv) | refine And.intro ?_ ?_ | exact True.intro)
  all_goals first
    | (clear hE; subst hA; simp [Ar.std, hR'] at *; done)
    | skip
  refine loopA hE (inl := inlL []) inl0 0 [4] [] (fun r : Nat => [.i (r : Int)]) (fun r => r ≤ a.length) (fun r => a.length - r) 0 (Nat.zero_le _) ?_ ?_
  · cbv
    exact ⟨rfl, trivial⟩
  · intro r hr K hK
    cbv
    repeat' (first | (refine Br.mk (fun _ => ?_) (fun _ => ?_) <;> cbv) | (refine NilB.mk (fun _ => ?_) ?_ <;> cbv) | refine And.intro ?_ ?_ | exact True.intro)
    all_goals first
      | (clear hE hK; (subst hA; simp only [Ar.std, Int.ofNat_eq_natCast, Int.toNat_natCast, Bool.not_eq_true', Bool.not_eq_false', decide_eq_true_eq, decide_eq_false_iff_not] at *); first | omega | (rw [i64_in]; omega) | (simp at *; done) | (simp [hR']; done))
      | skip
    · refine hK (r + 1) _ ?_ ?_ ?_
      · clear hE hK; (subst hA; simp only [Ar.std, Int.ofNat_eq_natCast, Int.toNat_natCast, Bool.not_eq_true', Bool.not_eq_false', decide_eq_true_eq, decide_eq_false_iff_not] at *); omega
      · clear hE hK; (subst hA; simp only [Ar.std, Int.ofNat_eq_natCast, Int.toNat_natCast, Bool.not_eq_true', Bool.not_eq_false', decide_eq_true_eq, decide_eq_false_iff_not] at *); omega
      · try dsimp only
        clear hE hK hR'
        cbv
        subst hA
        exact ⟨rfl, trivial⟩
    clear hK
    refine loopA hE (inl := inlL []) inl0 0 [4] [] (fun r : Nat => [.i (r : Int)]) (fun r => r ≤ b.length) (fun r => b.length - r) 0 (Nat.zero_le _) ?_ ?_
    · cbv
      exact ⟨rfl, trivial⟩
    · intro q hq K hK
      cbv
      repeat' (first | (refine Br.mk (fun _ => ?_) (fun _ => ?_) <;> cbv) | (refine NilB.mk (fun _ => ?_) ?_ <;> cbv) | refine And.intro ?_ ?_ | exact True.intro)
      all_goals first
        | (clear hE hK; (subst hA; simp only [Ar.std, Int.ofNat_eq_natCast, Int.toNat_natCast, Bool.not_eq_true', Bool.not_eq_false', decide_eq_true_eq, decide_eq_false_iff_not] at *); first | omega | (rw [i64_in]; omega) | (simp at *; done) | (simp [hR']; done))
        | skip
      refine hK (q + 1) _ ?_ ?_ ?_
      · clear hE hK; (subst hA; simp only [Ar.std, Int.ofNat_eq_natCast, Int.toNat_natCast, Bool.not_eq_true', Bool.not_eq_false', decide_eq_true_eq, decide_eq_false_iff_not] at *); omega
      · clear hE hK; (subst hA; simp only [Ar.std, Int.ofNat_eq_natCast, Int.toNat_natCast, Bool.not_eq_true', Bool.not_eq_false', decide_eq_true_eq, decide_eq_false_iff_not] at *); omega
      · try dsimp only
        clear hE hK hR'
        cbv
        subst hA
        exact ⟨rfl, trivial⟩
end HX

namespace HX
open Go Go.Proofs CX
structure V39 (pre : Nat → List (List D) → Prop) (fn : Nat → List (List D) → Nat → Nat → D) (a0 : Int) (a1 : Rows) (a2 : Int) (R : Nat → Nat → D) (I0 : Rows → Int → Prop) (m0 : Rows → Int → Nat) (I1 : Rows → Int → Int → Int → Int → Int → Rows → Int → Rows → Prop) (m1 : Rows → Int → Int → Int → Int → Int → Rows → Int → Rows → Nat) (I2 : Rows → Int → Int → Int → Int → Int → Rows → Int → Rows → Int → Int → Rows → Int → Rows → Prop) (m2 : Rows → Int → Int → Int → Int → Int → Rows → Int → Rows → Int → Int → Rows → Int → Rows → Nat) : Prop where
  g0 : pre 78 [[D.i a0], [D.l a1], [D.i a2]]
  g1 : (¬ (D.int (fn 78 [[D.i a0], [D.l a1], [D.i a2]] 0 0)) = 0) → R 0 0 = D.l []
  g2 : (¬ (D.int (fn 78 [[D.i a0], [D.l a1], [D.i a2]] 0 0)) = 0) → R 0 1 = D.i 0
  g3 : (¬ (D.int (fn 78 [[D.i a0], [D.l a1], [D.i a2]] 0 0)) = 0) → R 0 2 = D.l []
  g4 : (¬ (D.int (fn 78 [[D.i a0], [D.l a1], [D.i a2]] 0 0)) = 0) → R 1 0 = D.i (D.int (fn 78 [[D.i a0], [D.l a1], [D.i a2]] 0 0))
  g5 : ((D.int (fn 78 [[D.i a0], [D.l a1], [D.i a2]] 0 0)) = 0) → -9223372036854775808 ≤ (a0 + 1) ∧ (a0 + 1) ≤ 9223372036854775807
  g6 : ((D.int (fn 78 [[D.i a0], [D.l a1], [D.i a2]] 0 0)) = 0) → -9223372036854775808 ≤ (2 * (a1.length : Int)) ∧ (2 * (a1.length : Int)) ≤ 9223372036854775807
  g7 : ((D.int (fn 78 [[D.i a0], [D.l a1], [D.i a2]] 0 0)) = 0) → -9223372036854775808 ≤ ((a0 + 1) + (2 * (a1.length : Int))) ∧ ((a0 + 1) + (2 * (a1.length : Int))) ≤ 9223372036854775807
  i0 : ((D.int (fn 78 [[D.i a0], [D.l a1], [D.i a2]] 0 0)) = 0) → I0 [] 0
  g9 : ∀ x0_0 x0_1, I0 x0_0 x0_1 → ((D.int (fn 78 [[D.i a0], [D.l a1], [D.i a2]] 0 0)) = 0) → (x0_1 < (a1.length : Int)) → 0 ≤ x0_1
  g10 : ∀ x0_0 x0_1, I0 x0_0 x0_1 → ((D.int (fn 78 [[D.i a0], [D.l a1], [D.i a2]] 0 0)) = 0) → (x0_1 < (a1.length : Int)) → x0_1 < (a1.length : Int)
  g11 : ∀ x0_0 x0_1, I0 x0_0 x0_1 → ((D.int (fn 78 [[D.i a0], [D.l a1], [D.i a2]] 0 0)) = 0) → (x0_1 < (a1.length : Int)) → (x0_0.length + (List.length [[D.i ((D.rows (gt a1 x0_1.toNat 0)).length : Int)]])) * 8 ≤ 4294967296 ∧ (x0_0.length + (List.length [[D.i ((D.rows (gt a1 x0_1.toNat 0)).length : Int)]])) ≤ 4294967296
  g12 : ∀ x0_0 x0_1, I0 x0_0 x0_1 → ((D.int (fn 78 [[D.i a0], [D.l a1], [D.i a2]] 0 0)) = 0) → (x0_1 < (a1.length : Int)) → -9223372036854775808 ≤ (x0_1 + 1) ∧ (x0_1 + 1) ≤ 9223372036854775807
  n13 : ∀ x0_0 x0_1, I0 x0_0 x0_1 → ((D.int (fn 78 [[D.i a0], [D.l a1], [D.i a2]] 0 0)) = 0) → (x0_1 < (a1.length : Int)) → I0 (x0_0 ++ [[D.i ((D.rows (gt a1 x0_1.toNat 0)).length : Int)]]) (x0_1 + 1) ∧ m0 (x0_0 ++ [[D.i ((D.rows (gt a1 x0_1.toNat 0)).length : Int)]]) (x0_1 + 1) < m0 x0_0 x0_1
  i1 : ∀ x0_0 x0_1, I0 x0_0 x0_1 → ((D.int (fn 78 [[D.i a0], [D.l a1], [D.i a2]] 0 0)) = 0) → (¬ x0_1 < (a1.length : Int)) → I1 x0_0 x0_1 0 (-1) (-1) 0 [] ((a0 + 1) + (2 * (a1.length : Int))) []
  g15 : ∀ x0_0 x0_1, I0 x0_0 x0_1 → ∀ x1_0 x1_1 x1_2 x1_3 x1_4 x1_5 x1_6, I1 x0_0 x0_1 x1_0 x1_1 x1_2 x1_3 x1_4 x1_5 x1_6 → ((D.int (fn 78 [[D.i a0], [D.l a1], [D.i a2]] 0 0)) = 0) → (¬ x0_1 < (a1.length : Int)) → (x1_3 < (x0_0.length : Int)) → 0 ≤ x1_3
  g16 : ∀ x0_0 x0_1, I0 x0_0 x0_1 → ∀ x1_0 x1_1 x1_2 x1_3 x1_4 x1_5 x1_6, I1 x0_0 x0_1 x1_0 x1_1 x1_2 x1_3 x1_4 x1_5 x1_6 → ((D.int (fn 78 [[D.i a0], [D.l a1], [D.i a2]] 0 0)) = 0) → (¬ x0_1 < (a1.length : Int)) → (x1_3 < (x0_0.length : Int)) → x1_3 < (x0_0.length : Int)
  g17 : ∀ x0_0 x0_1, I0 x0_0 x0_1 → ∀ x1_0 x1_1 x1_2 x1_3 x1_4 x1_5 x1_6, I1 x0_0 x0_1 x1_0 x1_1 x1_2 x1_3 x1_4 x1_5 x1_6 → ((D.int (fn 78 [[D.i a0], [D.l a1], [D.i a2]] 0 0)) = 0) → (¬ x0_1 < (a1.length : Int)) → (x1_3 < (x0_0.length : Int)) → (((Int.toNat x1_3 : Nat) : Int)) < (x0_0.length : Int)
  i2 : ∀ x0_0 x0_1, I0 x0_0 x0_1 → ∀ x1_0 x1_1 x1_2 x1_3 x1_4 x1_5 x1_6, I1 x0_0 x0_1 x1_0 x1_1 x1_2 x1_3 x1_4 x1_5 x1_6 → ((D.int (fn 78 [[D.i a0], [D.l a1], [D.i a2]] 0 0)) = 0) → (¬ x0_1 < (a1.length : Int)) → (x1_3 < (x0_0.length : Int)) → I2 x0_0 x0_1 x1_0 x1_1 x1_2 x1_3 x1_4 x1_5 x1_6 x1_0 0 x1_4 x1_5 x1_6
  g19 : ∀ x0_0 x0_1, I0 x0_0 x0_1 → ∀ x1_0 x1_1 x1_2 x1_3 x1_4 x1_5 x1_6, I1 x0_0 x0_1 x1_0 x1_1 x1_2 x1_3 x1_4 x1_5 x1_6 → ∀ x2_0 x2_1 x2_2 x2_3 x2_4, I2 x0_0 x0_1 x1_0 x1_1 x1_2 x1_3 x1_4 x1_5 x1_6 x2_0 x2_1 x2_2 x2_3 x2_4 → ((D.int (fn 78 [[D.i a0], [D.l a1], [D.i a2]] 0 0)) = 0) → (¬ x0_1 < (a1.length : Int)) → (x1_3 < (x0_0.length : Int)) → (x2_1 < (D.int (gt x0_0 x1_3.toNat 0))) → 0 ≤ x1_3
  g20 : ∀ x0_0 x0_1, I0 x0_0 x0_1 → ∀ x1_0 x1_1 x1_2 x1_3 x1_4 x1_5 x1_6, I1 x0_0 x0_1 x1_0 x1_1 x1_2 x1_3 x1_4 x1_5 x1_6 → ∀ x2_0 x2_1 x2_2 x2_3 x2_4, I2 x0_0 x0_1 x1_0 x1_1 x1_2 x1_3 x1_4 x1_5 x1_6 x2_0 x2_1 x2_2 x2_3 x2_4 → ((D.int (fn 78 [[D.i a0], [D.l a1], [D.i a2]] 0 0)) = 0) → (¬ x0_1 < (a1.length : Int)) → (x1_3 < (x0_0.length : Int)) → (x2_1 < (D.int (gt x0_0 x1_3.toNat 0))) → x1_3 < (a1.length : Int)
  g21 : ∀ x0_0 x0_1, I0 x0_0 x0_1 → ∀ x1_0 x1_1 x1_2 x1_3 x1_4 x1_5 x1_6, I1 x0_0 x0_1 x1_0 x1_1 x1_2 x1_3 x1_4 x1_5 x1_6 → ∀ x2_0 x2_1 x2_2 x2_3 x2_4, I2 x0_0 x0_1 x1_0 x1_1 x1_2 x1_3 x1_4 x1_5 x1_6 x2_0 x2_1 x2_2 x2_3 x2_4 → ((D.int (fn 78 [[D.i a0], [D.l a1], [D.i a2]] 0 0)) = 0) → (¬ x0_1 < (a1.length : Int)) → (x1_3 < (x0_0.length : Int)) → (x2_1 < (D.int (gt x0_0 x1_3.toNat 0))) → 0 ≤ x2_1
  g22 : ∀ x0_0 x0_1, I0 x0_0 x0_1 → ∀ x1_0 x1_1 x1_2 x1_3 x1_4 x1_5 x1_6, I1 x0_0 x0_1 x1_0 x1_1 x1_2 x1_3 x1_4 x1_5 x1_6 → ∀ x2_0 x2_1 x2_2 x2_3 x2_4, I2 x0_0 x0_1 x1_0 x1_1 x1_2 x1_3 x1_4 x1_5 x1_6 x2_0 x2_1 x2_2 x2_3 x2_4 → ((D.int (fn 78 [[D.i a0], [D.l a1], [D.i a2]] 0 0)) = 0) → (¬ x0_1 < (a1.length : Int)) → (x1_3 < (x0_0.length : Int)) → (x2_1 < (D.int (gt x0_0 x1_3.toNat 0))) → x2_1 < ((D.rows (gt a1 x1_3.toNat 0)).length : Int)
  g23 : ∀ x0_0 x0_1, I0 x0_0 x0_1 → ∀ x1_0 x1_1 x1_2 x1_3 x1_4 x1_5 x1_6, I1 x0_0 x0_1 x1_0 x1_1 x1_2 x1_3 x1_4 x1_5 x1_6 → ∀ x2_0 x2_1 x2_2 x2_3 x2_4, I2 x0_0 x0_1 x1_0 x1_1 x1_2 x1_3 x1_4 x1_5 x1_6 x2_0 x2_1 x2_2 x2_3 x2_4 → ((D.int (fn 78 [[D.i a0], [D.l a1], [D.i a2]] 0 0)) = 0) → (¬ x0_1 < (a1.length : Int)) → (x1_3 < (x0_0.length : Int)) → (x2_1 < (D.int (gt x0_0 x1_3.toNat 0))) → pre 85 [[D.i (D.int (gt (D.rows (gt a1 x1_3.toNat 0)) x2_1.toNat 2))]]
  g24 : ∀ x0_0 x0_1, I0 x0_0 x0_1 → ∀ x1_0 x1_1 x1_2 x1_3 x1_4 x1_5 x1_6, I1 x0_0 x0_1 x1_0 x1_1 x1_2 x1_3 x1_4 x1_5 x1_6 → ∀ x2_0 x2_1 x2_2 x2_3 x2_4, I2 x0_0 x0_1 x1_0 x1_1 x1_2 x1_3 x1_4 x1_5 x1_6 x2_0 x2_1 x2_2 x2_3 x2_4 → ((D.int (fn 78 [[D.i a0], [D.l a1], [D.i a2]] 0 0)) = 0) → (¬ x0_1 < (a1.length : Int)) → (x1_3 < (x0_0.length : Int)) → (x2_1 < (D.int (gt x0_0 x1_3.toNat 0))) → (x2_2.length + (List.length [[D.i (D.int (fn 85 [[D.i (D.int (gt (D.rows (gt a1 x1_3.toNat 0)) x2_1.toNat 2))]] 0 0)), D.i (D.int (fn 85 [[D.i (D.int (gt (D.rows (gt a1 x1_3.toNat 0)) x2_1.toNat 2))]] 0 1)), D.i (D.int (fn 85 [[D.i (D.int (gt (D.rows (gt a1 x1_3.toNat 0)) x2_1.toNat 2))]] 0 2)), D.i (D.int (fn 85 [[D.i (D.int (gt (D.rows (gt a1 x1_3.toNat 0)) x2_1.toNat 2))]] 0 3)), D.i (D.int (fn 85 [[D.i (D.int (gt (D.rows (gt a1 x1_3.toNat 0)) x2_1.toNat 2))]] 0 4)), D.i (D.int (fn 85 [[D.i (D.int (gt (D.rows (gt a1 x1_3.toNat 0)) x2_1.toNat 2))]] 0 5)), D.i (D.int (fn 85 [[D.i (D.int (gt (D.rows (gt a1 x1_3.toNat 0)) x2_1.toNat 2))]] 0 6)), D.i (D.int (fn 85 [[D.i (D.int (gt (D.rows (gt a1 x1_3.toNat 0)) x2_1.toNat 2))]] 0 7))]])) * 64 ≤ 4294967296 ∧ (x2_2.length + (List.length [[D.i (D.int (fn 85 [[D.i (D.int (gt (D.rows (gt a1 x1_3.toNat 0)) x2_1.toNat 2))]] 0 0)), D.i (D.int (fn 85 [[D.i (D.int (gt (D.rows (gt a1 x1_3.toNat 0)) x2_1.toNat 2))]] 0 1)), D.i (D.int (fn 85 [[D.i (D.int (gt (D.rows (gt a1 x1_3.toNat 0)) x2_1.toNat 2))]] 0 2)), D.i (D.int (fn 85 [[D.i (D.int (gt (D.rows (gt a1 x1_3.toNat 0)) x2_1.toNat 2))]] 0 3)), D.i (D.int (fn 85 [[D.i (D.int (gt (D.rows (gt a1 x1_3.toNat 0)) x2_1.toNat 2))]] 0 4)), D.i (D.int (fn 85 [[D.i (D.int (gt (D.rows (gt a1 x1_3.toNat 0)) x2_1.toNat 2))]] 0 5)), D.i (D.int (fn 85 [[D.i (D.int (gt (D.rows (gt a1 x1_3.toNat 0)) x2_1.toNat 2))]] 0 6)), D.i (D.int (fn 85 [[D.i (D.int (gt (D.rows (gt a1 x1_3.toNat 0)) x2_1.toNat 2))]] 0 7))]])) ≤ 4294967296
  g25 : ∀ x0_0 x0_1, I0 x0_0 x0_1 → ∀ x1_0 x1_1 x1_2 x1_3 x1_4 x1_5 x1_6, I1 x0_0 x0_1 x1_0 x1_1 x1_2 x1_3 x1_4 x1_5 x1_6 → ∀ x2_0 x2_1 x2_2 x2_3 x2_4, I2 x0_0 x0_1 x1_0 x1_1 x1_2 x1_3 x1_4 x1_5 x1_6 x2_0 x2_1 x2_2 x2_3 x2_4 → ((D.int (fn 78 [[D.i a0], [D.l a1], [D.i a2]] 0 0)) = 0) → (¬ x0_1 < (a1.length : Int)) → (x1_3 < (x0_0.length : Int)) → (x2_1 < (D.int (gt x0_0 x1_3.toNat 0))) → -9223372036854775808 ≤ ((-2) - a0) ∧ ((-2) - a0) ≤ 9223372036854775807
  g26 : ∀ x0_0 x0_1, I0 x0_0 x0_1 → ∀ x1_0 x1_1 x1_2 x1_3 x1_4 x1_5 x1_6, I1 x0_0 x0_1 x1_0 x1_1 x1_2 x1_3 x1_4 x1_5 x1_6 → ∀ x2_0 x2_1 x2_2 x2_3 x2_4, I2 x0_0 x0_1 x1_0 x1_1 x1_2 x1_3 x1_4 x1_5 x1_6 x2_0 x2_1 x2_2 x2_3 x2_4 → ((D.int (fn 78 [[D.i a0], [D.l a1], [D.i a2]] 0 0)) = 0) → (¬ x0_1 < (a1.length : Int)) → (x1_3 < (x0_0.length : Int)) → (x2_1 < (D.int (gt x0_0 x1_3.toNat 0))) → -9223372036854775808 ≤ (2 * x1_3) ∧ (2 * x1_3) ≤ 9223372036854775807
  g27 : ∀ x0_0 x0_1, I0 x0_0 x0_1 → ∀ x1_0 x1_1 x1_2 x1_3 x1_4 x1_5 x1_6, I1 x0_0 x0_1 x1_0 x1_1 x1_2 x1_3 x1_4 x1_5 x1_6 → ∀ x2_0 x2_1 x2_2 x2_3 x2_4, I2 x0_0 x0_1 x1_0 x1_1 x1_2 x1_3 x1_4 x1_5 x1_6 x2_0 x2_1 x2_2 x2_3 x2_4 → ((D.int (fn 78 [[D.i a0], [D.l a1], [D.i a2]] 0 0)) = 0) → (¬ x0_1 < (a1.length : Int)) → (x1_3 < (x0_0.length : Int)) → (x2_1 < (D.int (gt x0_0 x1_3.toNat 0))) → -9223372036854775808 ≤ (((-2) - a0) - (2 * x1_3)) ∧ (((-2) - a0) - (2 * x1_3)) ≤ 9223372036854775807
  g28 : ∀ x0_0 x0_1, I0 x0_0 x0_1 → ∀ x1_0 x1_1 x1_2 x1_3 x1_4 x1_5 x1_6, I1 x0_0 x0_1 x1_0 x1_1 x1_2 x1_3 x1_4 x1_5 x1_6 → ∀ x2_0 x2_1 x2_2 x2_3 x2_4, I2 x0_0 x0_1 x1_0 x1_1 x1_2 x1_3 x1_4 x1_5 x1_6 x2_0 x2_1 x2_2 x2_3 x2_4 → ((D.int (fn 78 [[D.i a0], [D.l a1], [D.i a2]] 0 0)) = 0) → (¬ x0_1 < (a1.length : Int)) → (x1_3 < (x0_0.length : Int)) → (x2_1 < (D.int (gt x0_0 x1_3.toNat 0))) → pre 74 [[D.i x1_3, D.i x2_1, D.i x2_0, D.i x1_1, D.i x1_2], [D.l (D.rows (gt (D.rows (gt a1 x1_3.toNat 0)) x2_1.toNat 0))]]
  g29 : ∀ x0_0 x0_1, I0 x0_0 x0_1 → ∀ x1_0 x1_1 x1_2 x1_3 x1_4 x1_5 x1_6, I1 x0_0 x0_1 x1_0 x1_1 x1_2 x1_3 x1_4 x1_5 x1_6 → ∀ x2_0 x2_1 x2_2 x2_3 x2_4, I2 x0_0 x0_1 x1_0 x1_1 x1_2 x1_3 x1_4 x1_5 x1_6 x2_0 x2_1 x2_2 x2_3 x2_4 → ((D.int (fn 78 [[D.i a0], [D.l a1], [D.i a2]] 0 0)) = 0) → (¬ x0_1 < (a1.length : Int)) → (x1_3 < (x0_0.length : Int)) → (x2_1 < (D.int (gt x0_0 x1_3.toNat 0))) → (x2_4.length + (List.length (D.rows (fn 74 [[D.i x1_3, D.i x2_1, D.i x2_0, D.i x1_1, D.i x1_2], [D.l (D.rows (gt (D.rows (gt a1 x1_3.toNat 0)) x2_1.toNat 0))]] 0 0)))) * 32 ≤ 4294967296 ∧ (x2_4.length + (List.length (D.rows (fn 74 [[D.i x1_3, D.i x2_1, D.i x2_0, D.i x1_1, D.i x1_2], [D.l (D.rows (gt (D.rows (gt a1 x1_3.toNat 0)) x2_1.toNat 0))]] 0 0)))) ≤ 4294967296
  g30 : ∀ x0_0 x0_1, I0 x0_0 x0_1 → ∀ x1_0 x1_1 x1_2 x1_3 x1_4 x1_5 x1_6, I1 x0_0 x0_1 x1_0 x1_1 x1_2 x1_3 x1_4 x1_5 x1_6 → ∀ x2_0 x2_1 x2_2 x2_3 x2_4, I2 x0_0 x0_1 x1_0 x1_1 x1_2 x1_3 x1_4 x1_5 x1_6 x2_0 x2_1 x2_2 x2_3 x2_4 → ((D.int (fn 78 [[D.i a0], [D.l a1], [D.i a2]] 0 0)) = 0) → (¬ x0_1 < (a1.length : Int)) → (x1_3 < (x0_0.length : Int)) → (x2_1 < (D.int (gt x0_0 x1_3.toNat 0))) → -9223372036854775808 ≤ ((-1) - a0) ∧ ((-1) - a0) ≤ 9223372036854775807
  g31 : ∀ x0_0 x0_1, I0 x0_0 x0_1 → ∀ x1_0 x1_1 x1_2 x1_3 x1_4 x1_5 x1_6, I1 x0_0 x0_1 x1_0 x1_1 x1_2 x1_3 x1_4 x1_5 x1_6 → ∀ x2_0 x2_1 x2_2 x2_3 x2_4, I2 x0_0 x0_1 x1_0 x1_1 x1_2 x1_3 x1_4 x1_5 x1_6 x2_0 x2_1 x2_2 x2_3 x2_4 → ((D.int (fn 78 [[D.i a0], [D.l a1], [D.i a2]] 0 0)) = 0) → (¬ x0_1 < (a1.length : Int)) → (x1_3 < (x0_0.length : Int)) → (x2_1 < (D.int (gt x0_0 x1_3.toNat 0))) → pre 75 [[D.i x1_3, D.i x2_1, D.i x2_0, D.i x1_1, D.i x1_2], [D.i ((-1) - a0)], [D.i (-32768)]]
  g32 : ∀ x0_0 x0_1, I0 x0_0 x0_1 → ∀ x1_0 x1_1 x1_2 x1_3 x1_4 x1_5 x1_6, I1 x0_0 x0_1 x1_0 x1_1 x1_2 x1_3 x1_4 x1_5 x1_6 → ∀ x2_0 x2_1 x2_2 x2_3 x2_4, I2 x0_0 x0_1 x1_0 x1_1 x1_2 x1_3 x1_4 x1_5 x1_6 x2_0 x2_1 x2_2 x2_3 x2_4 → ((D.int (fn 78 [[D.i a0], [D.l a1], [D.i a2]] 0 0)) = 0) → (¬ x0_1 < (a1.length : Int)) → (x1_3 < (x0_0.length : Int)) → (x2_1 < (D.int (gt x0_0 x1_3.toNat 0))) → pre 75 [[D.i x1_3, D.i x2_1, D.i x2_0, D.i x1_1, D.i x1_2], [D.i (((-2) - a0) - (2 * x1_3))], [D.i 32768]]
  g33 : ∀ x0_0 x0_1, I0 x0_0 x0_1 → ∀ x1_0 x1_1 x1_2 x1_3 x1_4 x1_5 x1_6, I1 x0_0 x0_1 x1_0 x1_1 x1_2 x1_3 x1_4 x1_5 x1_6 → ∀ x2_0 x2_1 x2_2 x2_3 x2_4, I2 x0_0 x0_1 x1_0 x1_1 x1_2 x1_3 x1_4 x1_5 x1_6 x2_0 x2_1 x2_2 x2_3 x2_4 → ((D.int (fn 78 [[D.i a0], [D.l a1], [D.i a2]] 0 0)) = 0) → (¬ x0_1 < (a1.length : Int)) → (x1_3 < (x0_0.length : Int)) → (x2_1 < (D.int (gt x0_0 x1_3.toNat 0))) → pre 75 [[D.i x1_3, D.i x2_1, D.i x2_0, D.i x1_1, D.i x1_2], [D.i (((-2) - a0) - (2 * x1_3))], [D.i (D.int (gt (D.rows (gt a1 x1_3.toNat 0)) x2_1.toNat 1))]]
  g34 : ∀ x0_0 x0_1, I0 x0_0 x0_1 → ∀ x1_0 x1_1 x1_2 x1_3 x1_4 x1_5 x1_6, I1 x0_0 x0_1 x1_0 x1_1 x1_2 x1_3 x1_4 x1_5 x1_6 → ∀ x2_0 x2_1 x2_2 x2_3 x2_4, I2 x0_0 x0_1 x1_0 x1_1 x1_2 x1_3 x1_4 x1_5 x1_6 x2_0 x2_1 x2_2 x2_3 x2_4 → ((D.int (fn 78 [[D.i a0], [D.l a1], [D.i a2]] 0 0)) = 0) → (¬ x0_1 < (a1.length : Int)) → (x1_3 < (x0_0.length : Int)) → (x2_1 < (D.int (gt x0_0 x1_3.toNat 0))) → -9223372036854775808 ≤ ((((-2) - a0) - (2 * x1_3)) - 1) ∧ ((((-2) - a0) - (2 * x1_3)) - 1) ≤ 9223372036854775807
  g35 : ∀ x0_0 x0_1, I0 x0_0 x0_1 → ∀ x1_0 x1_1 x1_2 x1_3 x1_4 x1_5 x1_6, I1 x0_0 x0_1 x1_0 x1_1 x1_2 x1_3 x1_4 x1_5 x1_6 → ∀ x2_0 x2_1 x2_2 x2_3 x2_4, I2 x0_0 x0_1 x1_0 x1_1 x1_2 x1_3 x1_4 x1_5 x1_6 x2_0 x2_1 x2_2 x2_3 x2_4 → ((D.int (fn 78 [[D.i a0], [D.l a1], [D.i a2]] 0 0)) = 0) → (¬ x0_1 < (a1.length : Int)) → (x1_3 < (x0_0.length : Int)) → (x2_1 < (D.int (gt x0_0 x1_3.toNat 0))) → pre 75 [[D.i x1_3, D.i x2_1, D.i x2_0, D.i x1_1, D.i x1_2], [D.i ((((-2) - a0) - (2 * x1_3)) - 1)], [D.i (-32768)]]
  g36 : ∀ x0_0 x0_1, I0 x0_0 x0_1 → ∀ x1_0 x1_1 x1_2 x1_3 x1_4 x1_5 x1_6, I1 x0_0 x0_1 x1_0 x1_1 x1_2 x1_3 x1_4 x1_5 x1_6 → ∀ x2_0 x2_1 x2_2 x2_3 x2_4, I2 x0_0 x0_1 x1_0 x1_1 x1_2 x1_3 x1_4 x1_5 x1_6 x2_0 x2_1 x2_2 x2_3 x2_4 → ((D.int (fn 78 [[D.i a0], [D.l a1], [D.i a2]] 0 0)) = 0) → (¬ x0_1 < (a1.length : Int)) → (x1_3 < (x0_0.length : Int)) → (x2_1 < (D.int (gt x0_0 x1_3.toNat 0))) → ((List.length (x2_4 ++ (D.rows (fn 74 [[D.i x1_3, D.i x2_1, D.i x2_0, D.i x1_1, D.i x1_2], [D.l (D.rows (gt (D.rows (gt a1 x1_3.toNat 0)) x2_1.toNat 0))]] 0 0)))) + (List.length [[D.i (D.int (fn 75 [[D.i x1_3, D.i x2_1, D.i x2_0, D.i x1_1, D.i x1_2], [D.i ((-1) - a0)], [D.i (-32768)]] 0 0)), D.i (D.int (fn 75 [[D.i x1_3, D.i x2_1, D.i x2_0, D.i x1_1, D.i x1_2], [D.i ((-1) - a0)], [D.i (-32768)]] 0 1)), D.i (D.int (fn 75 [[D.i x1_3, D.i x2_1, D.i x2_0, D.i x1_1, D.i x1_2], [D.i ((-1) - a0)], [D.i (-32768)]] 0 2)), D.i (D.int (fn 75 [[D.i x1_3, D.i x2_1, D.i x2_0, D.i x1_1, D.i x1_2], [D.i ((-1) - a0)], [D.i (-32768)]] 0 3))], [D.i (D.int (fn 75 [[D.i x1_3, D.i x2_1, D.i x2_0, D.i x1_1, D.i x1_2], [D.i (((-2) - a0) - (2 * x1_3))], [D.i 32768]] 0 0)), D.i (D.int (fn 75 [[D.i x1_3, D.i x2_1, D.i x2_0, D.i x1_1, D.i x1_2], [D.i (((-2) - a0) - (2 * x1_3))], [D.i 32768]] 0 1)), D.i (D.int (fn 75 [[D.i x1_3, D.i x2_1, D.i x2_0, D.i x1_1, D.i x1_2], [D.i (((-2) - a0) - (2 * x1_3))], [D.i 32768]] 0 2)), D.i (D.int (fn 75 [[D.i x1_3, D.i x2_1, D.i x2_0, D.i x1_1, D.i x1_2], [D.i (((-2) - a0) - (2 * x1_3))], [D.i 32768]] 0 3))], [D.i (D.int (fn 75 [[D.i x1_3, D.i x2_1, D.i x2_0, D.i x1_1, D.i x1_2], [D.i (((-2) - a0) - (2 * x1_3))], [D.i (D.int (gt (D.rows (gt a1 x1_3.toNat 0)) x2_1.toNat 1))]] 0 0)), D.i (D.int (fn 75 [[D.i x1_3, D.i x2_1, D.i x2_0, D.i x1_1, D.i x1_2], [D.i (((-2) - a0) - (2 * x1_3))], [D.i (D.int (gt (D.rows (gt a1 x1_3.toNat 0)) x2_1.toNat 1))]] 0 1)), D.i (D.int (fn 75 [[D.i x1_3, D.i x2_1, D.i x2_0, D.i x1_1, D.i x1_2], [D.i (((-2) - a0) - (2 * x1_3))], [D.i (D.int (gt (D.rows (gt a1 x1_3.toNat 0)) x2_1.toNat 1))]] 0 2)), D.i (D.int (fn 75 [[D.i x1_3, D.i x2_1, D.i x2_0, D.i x1_1, D.i x1_2], [D.i (((-2) - a0) - (2 * x1_3))], [D.i (D.int (gt (D.rows (gt a1 x1_3.toNat 0)) x2_1.toNat 1))]] 0 3))], [D.i (D.int (fn 75 [[D.i x1_3, D.i x2_1, D.i x2_0, D.i x1_1, D.i x1_2], [D.i ((((-2) - a0) - (2 * x1_3)) - 1)], [D.i (-32768)]] 0 0)), D.i (D.int (fn 75 [[D.i x1_3, D.i x2_1, D.i x2_0, D.i x1_1, D.i x1_2], [D.i ((((-2) - a0) - (2 * x1_3)) - 1)], [D.i (-32768)]] 0 1)), D.i (D.int (fn 75 [[D.i x1_3, D.i x2_1, D.i x2_0, D.i x1_1, D.i x1_2], [D.i ((((-2) - a0) - (2 * x1_3)) - 1)], [D.i (-32768)]] 0 2)), D.i (D.int (fn 75 [[D.i x1_3, D.i x2_1, D.i x2_0, D.i x1_1, D.i x1_2], [D.i ((((-2) - a0) - (2 * x1_3)) - 1)], [D.i (-32768)]] 0 3))]])) * 32 ≤ 4294967296 ∧ ((List.length (x2_4 ++ (D.rows (fn 74 [[D.i x1_3, D.i x2_1, D.i x2_0, D.i x1_1, D.i x1_2], [D.l (D.rows (gt (D.rows (gt a1 x1_3.toNat 0)) x2_1.toNat 0))]] 0 0)))) + (List.length [[D.i (D.int (fn 75 [[D.i x1_3, D.i x2_1, D.i x2_0, D.i x1_1, D.i x1_2], [D.i ((-1) - a0)], [D.i (-32768)]] 0 0)), D.i (D.int (fn 75 [[D.i x1_3, D.i x2_1, D.i x2_0, D.i x1_1, D.i x1_2], [D.i ((-1) - a0)], [D.i (-32768)]] 0 1)), D.i (D.int (fn 75 [[D.i x1_3, D.i x2_1, D.i x2_0, D.i x1_1, D.i x1_2], [D.i ((-1) - a0)], [D.i (-32768)]] 0 2)), D.i (D.int (fn 75 [[D.i x1_3, D.i x2_1, D.i x2_0, D.i x1_1, D.i x1_2], [D.i ((-1) - a0)], [D.i (-32768)]] 0 3))], [D.i (D.int (fn 75 [[D.i x1_3, D.i x2_1, D.i x2_0, D.i x1_1, D.i x1_2], [D.i (((-2) - a0) - (2 * x1_3))], [D.i 32768]] 0 0)), D.i (D.int (fn 75 [[D.i x1_3, D.i x2_1, D.i x2_0, D.i x1_1, D.i x1_2], [D.i (((-2) - a0) - (2 * x1_3))], [D.i 32768]] 0 1)), D.i (D.int (fn 75 [[D.i x1_3, D.i x2_1, D.i x2_0, D.i x1_1, D.i x1_2], [D.i (((-2) - a0) - (2 * x1_3))], [D.i 32768]] 0 2)), D.i (D.int (fn 75 [[D.i x1_3, D.i x2_1, D.i x2_0, D.i x1_1, D.i x1_2], [D.i (((-2) - a0) - (2 * x1_3))], [D.i 32768]] 0 3))], [D.i (D.int (fn 75 [[D.i x1_3, D.i x2_1, D.i x2_0, D.i x1_1, D.i x1_2], [D.i (((-2) - a0) - (2 * x1_3))], [D.i (D.int (gt (D.rows (gt a1 x1_3.toNat 0)) x2_1.toNat 1))]] 0 0)), D.i (D.int (fn 75 [[D.i x1_3, D.i x2_1, D.i x2_0, D.i x1_1, D.i x1_2], [D.i (((-2) - a0) - (2 * x1_3))], [D.i (D.int (gt (D.rows (gt a1 x1_3.toNat 0)) x2_1.toNat 1))]] 0 1)), D.i (D.int (fn 75 [[D.i x1_3, D.i x2_1, D.i x2_0, D.i x1_1, D.i x1_2], [D.i (((-2) - a0) - (2 * x1_3))], [D.i (D.int (gt (D.rows (gt a1 x1_3.toNat 0)) x2_1.toNat 1))]] 0 2)), D.i (D.int (fn 75 [[D.i x1_3, D.i x2_1, D.i x2_0, D.i x1_1, D.i x1_2], [D.i (((-2) - a0) - (2 * x1_3))], [D.i (D.int (gt (D.rows (gt a1 x1_3.toNat 0)) x2_1.toNat 1))]] 0 3))], [D.i (D.int (fn 75 [[D.i x1_3, D.i x2_1, D.i x2_0, D.i x1_1, D.i x1_2], [D.i ((((-2) - a0) - (2 * x1_3)) - 1)], [D.i (-32768)]] 0 0)), D.i (D.int (fn 75 [[D.i x1_3, D.i x2_1, D.i x2_0, D.i x1_1, D.i x1_2], [D.i ((((-2) - a0) - (2 * x1_3)) - 1)], [D.i (-32768)]] 0 1)), D.i (D.int (fn 75 [[D.i x1_3, D.i x2_1, D.i x2_0, D.i x1_1, D.i x1_2], [D.i ((((-2) - a0) - (2 * x1_3)) - 1)], [D.i (-32768)]] 0 2)), D.i (D.int (fn 75 [[D.i x1_3, D.i x2_1, D.i x2_0, D.i x1_1, D.i x1_2], [D.i ((((-2) - a0) - (2 * x1_3)) - 1)], [D.i (-32768)]] 0 3))]])) ≤ 4294967296
  g37 : ∀ x0_0 x0_1, I0 x0_0 x0_1 → ∀ x1_0 x1_1 x1_2 x1_3 x1_4 x1_5 x1_6, I1 x0_0 x0_1 x1_0 x1_1 x1_2 x1_3 x1_4 x1_5 x1_6 → ∀ x2_0 x2_1 x2_2 x2_3 x2_4, I2 x0_0 x0_1 x1_0 x1_1 x1_2 x1_3 x1_4 x1_5 x1_6 x2_0 x2_1 x2_2 x2_3 x2_4 → ((D.int (fn 78 [[D.i a0], [D.l a1], [D.i a2]] 0 0)) = 0) → (¬ x0_1 < (a1.length : Int)) → (x1_3 < (x0_0.length : Int)) → (x2_1 < (D.int (gt x0_0 x1_3.toNat 0))) → -9223372036854775808 ≤ (x2_0 + 1) ∧ (x2_0 + 1) ≤ 9223372036854775807
  g38 : ∀ x0_0 x0_1, I0 x0_0 x0_1 → ∀ x1_0 x1_1 x1_2 x1_3 x1_4 x1_5 x1_6, I1 x0_0 x0_1 x1_0 x1_1 x1_2 x1_3 x1_4 x1_5 x1_6 → ∀ x2_0 x2_1 x2_2 x2_3 x2_4, I2 x0_0 x0_1 x1_0 x1_1 x1_2 x1_3 x1_4 x1_5 x1_6 x2_0 x2_1 x2_2 x2_3 x2_4 → ((D.int (fn 78 [[D.i a0], [D.l a1], [D.i a2]] 0 0)) = 0) → (¬ x0_1 < (a1.length : Int)) → (x1_3 < (x0_0.length : Int)) → (x2_1 < (D.int (gt x0_0 x1_3.toNat 0))) → -9223372036854775808 ≤ (x2_1 + 1) ∧ (x2_1 + 1) ≤ 9223372036854775807
  n39 : ∀ x0_0 x0_1, I0 x0_0 x0_1 → ∀ x1_0 x1_1 x1_2 x1_3 x1_4 x1_5 x1_6, I1 x0_0 x0_1 x1_0 x1_1 x1_2 x1_3 x1_4 x1_5 x1_6 → ∀ x2_0 x2_1 x2_2 x2_3 x2_4, I2 x0_0 x0_1 x1_0 x1_1 x1_2 x1_3 x1_4 x1_5 x1_6 x2_0 x2_1 x2_2 x2_3 x2_4 → ((D.int (fn 78 [[D.i a0], [D.l a1], [D.i a2]] 0 0)) = 0) → (¬ x0_1 < (a1.length : Int)) → (x1_3 < (x0_0.length : Int)) → (x2_1 < (D.int (gt x0_0 x1_3.toNat 0))) → I2 x0_0 x0_1 x1_0 x1_1 x1_2 x1_3 x1_4 x1_5 x1_6 (x2_0 + 1) (x2_1 + 1) (x2_2 ++ [[D.i (D.int (fn 85 [[D.i (D.int (gt (D.rows (gt a1 x1_3.toNat 0)) x2_1.toNat 2))]] 0 0)), D.i (D.int (fn 85 [[D.i (D.int (gt (D.rows (gt a1 x1_3.toNat 0)) x2_1.toNat 2))]] 0 1)), D.i (D.int (fn 85 [[D.i (D.int (gt (D.rows (gt a1 x1_3.toNat 0)) x2_1.toNat 2))]] 0 2)), D.i (D.int (fn 85 [[D.i (D.int (gt (D.rows (gt a1 x1_3.toNat 0)) x2_1.toNat 2))]] 0 3)), D.i (D.int (fn 85 [[D.i (D.int (gt (D.rows (gt a1 x1_3.toNat 0)) x2_1.toNat 2))]] 0 4)), D.i (D.int (fn 85 [[D.i (D.int (gt (D.rows (gt a1 x1_3.toNat 0)) x2_1.toNat 2))]] 0 5)), D.i (D.int (fn 85 [[D.i (D.int (gt (D.rows (gt a1 x1_3.toNat 0)) x2_1.toNat 2))]] 0 6)), D.i (D.int (fn 85 [[D.i (D.int (gt (D.rows (gt a1 x1_3.toNat 0)) x2_1.toNat 2))]] 0 7))]]) x2_3 ((x2_4 ++ (D.rows (fn 74 [[D.i x1_3, D.i x2_1, D.i x2_0, D.i x1_1, D.i x1_2], [D.l (D.rows (gt (D.rows (gt a1 x1_3.toNat 0)) x2_1.toNat 0))]] 0 0))) ++ [[D.i (D.int (fn 75 [[D.i x1_3, D.i x2_1, D.i x2_0, D.i x1_1, D.i x1_2], [D.i ((-1) - a0)], [D.i (-32768)]] 0 0)), D.i (D.int (fn 75 [[D.i x1_3, D.i x2_1, D.i x2_0, D.i x1_1, D.i x1_2], [D.i ((-1) - a0)], [D.i (-32768)]] 0 1)), D.i (D.int (fn 75 [[D.i x1_3, D.i x2_1, D.i x2_0, D.i x1_1, D.i x1_2], [D.i ((-1) - a0)], [D.i (-32768)]] 0 2)), D.i (D.int (fn 75 [[D.i x1_3, D.i x2_1, D.i x2_0, D.i x1_1, D.i x1_2], [D.i ((-1) - a0)], [D.i (-32768)]] 0 3))], [D.i (D.int (fn 75 [[D.i x1_3, D.i x2_1, D.i x2_0, D.i x1_1, D.i x1_2], [D.i (((-2) - a0) - (2 * x1_3))], [D.i 32768]] 0 0)), D.i (D.int (fn 75 [[D.i x1_3, D.i x2_1, D.i x2_0, D.i x1_1, D.i x1_2], [D.i (((-2) - a0) - (2 * x1_3))], [D.i 32768]] 0 1)), D.i (D.int (fn 75 [[D.i x1_3, D.i x2_1, D.i x2_0, D.i x1_1, D.i x1_2], [D.i (((-2) - a0) - (2 * x1_3))], [D.i 32768]] 0 2)), D.i (D.int (fn 75 [[D.i x1_3, D.i x2_1, D.i x2_0, D.i x1_1, D.i x1_2], [D.i (((-2) - a0) - (2 * x1_3))], [D.i 32768]] 0 3))], [D.i (D.int (fn 75 [[D.i x1_3, D.i x2_1, D.i x2_0, D.i x1_1, D.i x1_2], [D.i (((-2) - a0) - (2 * x1_3))], [D.i (D.int (gt (D.rows (gt a1 x1_3.toNat 0)) x2_1.toNat 1))]] 0 0)), D.i (D.int (fn 75 [[D.i x1_3, D.i x2_1, D.i x2_0, D.i x1_1, D.i x1_2], [D.i (((-2) - a0) - (2 * x1_3))], [D.i (D.int (gt (D.rows (gt a1 x1_3.toNat 0)) x2_1.toNat 1))]] 0 1)), D.i (D.int (fn 75 [[D.i x1_3, D.i x2_1, D.i x2_0, D.i x1_1, D.i x1_2], [D.i (((-2) - a0) - (2 * x1_3))], [D.i (D.int (gt (D.rows (gt a1 x1_3.toNat 0)) x2_1.toNat 1))]] 0 2)), D.i (D.int (fn 75 [[D.i x1_3, D.i x2_1, D.i x2_0, D.i x1_1, D.i x1_2], [D.i (((-2) - a0) - (2 * x1_3))], [D.i (D.int (gt (D.rows (gt a1 x1_3.toNat 0)) x2_1.toNat 1))]] 0 3))], [D.i (D.int (fn 75 [[D.i x1_3, D.i x2_1, D.i x2_0, D.i x1_1, D.i x1_2], [D.i ((((-2) - a0) - (2 * x1_3)) - 1)], [D.i (-32768)]] 0 0)), D.i (D.int (fn 75 [[D.i x1_3, D.i x2_1, D.i x2_0, D.i x1_1, D.i x1_2], [D.i ((((-2) - a0) - (2 * x1_3)) - 1)], [D.i (-32768)]] 0 1)), D.i (D.int (fn 75 [[D.i x1_3, D.i x2_1, D.i x2_0, D.i x1_1, D.i x1_2], [D.i ((((-2) - a0) - (2 * x1_3)) - 1)], [D.i (-32768)]] 0 2)), D.i (D.int (fn 75 [[D.i x1_3, D.i x2_1, D.i x2_0, D.i x1_1, D.i x1_2], [D.i ((((-2) - a0) - (2 * x1_3)) - 1)], [D.i (-32768)]] 0 3))]]) ∧ m2 x0_0 x0_1 x1_0 x1_1 x1_2 x1_3 x1_4 x1_5 x1_6 (x2_0 + 1) (x2_1 + 1) (x2_2 ++ [[D.i (D.int (fn 85 [[D.i (D.int (gt (D.rows (gt a1 x1_3.toNat 0)) x2_1.toNat 2))]] 0 0)), D.i (D.int (fn 85 [[D.i (D.int (gt (D.rows (gt a1 x1_3.toNat 0)) x2_1.toNat 2))]] 0 1)), D.i (D.int (fn 85 [[D.i (D.int (gt (D.rows (gt a1 x1_3.toNat 0)) x2_1.toNat 2))]] 0 2)), D.i (D.int (fn 85 [[D.i (D.int (gt (D.rows (gt a1 x1_3.toNat 0)) x2_1.toNat 2))]] 0 3)), D.i (D.int (fn 85 [[D.i (D.int (gt (D.rows (gt a1 x1_3.toNat 0)) x2_1.toNat 2))]] 0 4)), D.i (D.int (fn 85 [[D.i (D.int (gt (D.rows (gt a1 x1_3.toNat 0)) x2_1.toNat 2))]] 0 5)), D.i (D.int (fn 85 [[D.i (D.int (gt (D.rows (gt a1 x1_3.toNat 0)) x2_1.toNat 2))]] 0 6)), D.i (D.int (fn 85 [[D.i (D.int (gt (D.rows (gt a1 x1_3.toNat 0)) x2_1.toNat 2))]] 0 7))]]) x2_3 ((x2_4 ++ (D.rows (fn 74 [[D.i x1_3, D.i x2_1, D.i x2_0, D.i x1_1, D.i x1_2], [D.l (D.rows (gt (D.rows (gt a1 x1_3.toNat 0)) x2_1.toNat 0))]] 0 0))) ++ [[D.i (D.int (fn 75 [[D.i x1_3, D.i x2_1, D.i x2_0, D.i x1_1, D.i x1_2], [D.i ((-1) - a0)], [D.i (-32768)]] 0 0)), D.i (D.int (fn 75 [[D.i x1_3, D.i x2_1, D.i x2_0, D.i x1_1, D.i x1_2], [D.i ((-1) - a0)], [D.i (-32768)]] 0 1)), D.i (D.int (fn 75 [[D.i x1_3, D.i x2_1, D.i x2_0, D.i x1_1, D.i x1_2], [D.i ((-1) - a0)], [D.i (-32768)]] 0 2)), D.i (D.int (fn 75 [[D.i x1_3, D.i x2_1, D.i x2_0, D.i x1_1, D.i x1_2], [D.i ((-1) - a0)], [D.i (-32768)]] 0 3))], [D.i (D.int (fn 75 [[D.i x1_3, D.i x2_1, D.i x2_0, D.i x1_1, D.i x1_2], [D.i (((-2) - a0) - (2 * x1_3))], [D.i 32768]] 0 0)), D.i (D.int (fn 75 [[D.i x1_3, D.i x2_1, D.i x2_0, D.i x1_1, D.i x1_2], [D.i (((-2) - a0) - (2 * x1_3))], [D.i 32768]] 0 1)), D.i (D.int (fn 75 [[D.i x1_3, D.i x2_1, D.i x2_0, D.i x1_1, D.i x1_2], [D.i (((-2) - a0) - (2 * x1_3))], [D.i 32768]] 0 2)), D.i (D.int (fn 75 [[D.i x1_3, D.i x2_1, D.i x2_0, D.i x1_1, D.i x1_2], [D.i (((-2) - a0) - (2 * x1_3))], [D.i 32768]] 0 3))], [D.i (D.int (fn 75 [[D.i x1_3, D.i x2_1, D.i x2_0, D.i x1_1, D.i x1_2], [D.i (((-2) - a0) - (2 * x1_3))], [D.i (D.int (gt (D.rows (gt a1 x1_3.toNat 0)) x2_1.toNat 1))]] 0 0)), D.i (D.int (fn 75 [[D.i x1_3, D.i x2_1, D.i x2_0, D.i x1_1, D.i x1_2], [D.i (((-2) - a0) - (2 * x1_3))], [D.i (D.int (gt (D.rows (gt a1 x1_3.toNat 0)) x2_1.toNat 1))]] 0 1)), D.i (D.int (fn 75 [[D.i x1_3, D.i x2_1, D.i x2_0, D.i x1_1, D.i x1_2], [D.i (((-2) - a0) - (2 * x1_3))], [D.i (D.int (gt (D.rows (gt a1 x1_3.toNat 0)) x2_1.toNat 1))]] 0 2)), D.i (D.int (fn 75 [[D.i x1_3, D.i x2_1, D.i x2_0, D.i x1_1, D.i x1_2], [D.i (((-2) - a0) - (2 * x1_3))], [D.i (D.int (gt (D.rows (gt a1 x1_3.toNat 0)) x2_1.toNat 1))]] 0 3))], [D.i (D.int (fn 75 [[D.i x1_3, D.i x2_1, D.i x2_0, D.i x1_1, D.i x1_2], [D.i ((((-2) - a0) - (2 * x1_3)) - 1)], [D.i (-32768)]] 0 0)), D.i (D.int (fn 75 [[D.i x1_3, D.i x2_1, D.i x2_0, D.i x1_1, D.i x1_2], [D.i ((((-2) - a0) - (2 * x1_3)) - 1)], [D.i (-32768)]] 0 1)), D.i (D.int (fn 75 [[D.i x1_3, D.i x2_1, D.i x2_0, D.i x1_1, D.i x1_2], [D.i ((((-2) - a0) - (2 * x1_3)) - 1)], [D.i (-32768)]] 0 2)), D.i (D.int (fn 75 [[D.i x1_3, D.i x2_1, D.i x2_0, D.i x1_1, D.i x1_2], [D.i ((((-2) - a0) - (2 * x1_3)) - 1)], [D.i (-32768)]] 0 3))]]) < m2 x0_0 x0_1 x1_0 x1_1 x1_2 x1_3 x1_4 x1_5 x1_6 x2_0 x2_1 x2_2 x2_3 x2_4
  g40 : ∀ x0_0 x0_1, I0 x0_0 x0_1 → ∀ x1_0 x1_1 x1_2 x1_3 x1_4 x1_5 x1_6, I1 x0_0 x0_1 x1_0 x1_1 x1_2 x1_3 x1_4 x1_5 x1_6 → ∀ x2_0 x2_1 x2_2 x2_3 x2_4, I2 x0_0 x0_1 x1_0 x1_1 x1_2 x1_3 x1_4 x1_5 x1_6 x2_0 x2_1 x2_2 x2_3 x2_4 → ((D.int (fn 78 [[D.i a0], [D.l a1], [D.i a2]] 0 0)) = 0) → (¬ x0_1 < (a1.length : Int)) → (x1_3 < (x0_0.length : Int)) → (¬ x2_1 < (D.int (gt x0_0 x1_3.toNat 0))) → -9223372036854775808 ≤ (x1_3 + 1) ∧ (x1_3 + 1) ≤ 9223372036854775807
  n41 : ∀ x0_0 x0_1, I0 x0_0 x0_1 → ∀ x1_0 x1_1 x1_2 x1_3 x1_4 x1_5 x1_6, I1 x0_0 x0_1 x1_0 x1_1 x1_2 x1_3 x1_4 x1_5 x1_6 → ∀ x2_0 x2_1 x2_2 x2_3 x2_4, I2 x0_0 x0_1 x1_0 x1_1 x1_2 x1_3 x1_4 x1_5 x1_6 x2_0 x2_1 x2_2 x2_3 x2_4 → ((D.int (fn 78 [[D.i a0], [D.l a1], [D.i a2]] 0 0)) = 0) → (¬ x0_1 < (a1.length : Int)) → (x1_3 < (x0_0.length : Int)) → (¬ x2_1 < (D.int (gt x0_0 x1_3.toNat 0))) → I1 x0_0 x0_1 x2_0 x1_0 1 (x1_3 + 1) x2_2 x2_3 x2_4 ∧ m1 x0_0 x0_1 x2_0 x1_0 1 (x1_3 + 1) x2_2 x2_3 x2_4 < m1 x0_0 x0_1 x1_0 x1_1 x1_2 x1_3 x1_4 x1_5 x1_6
  g42 : ∀ x0_0 x0_1, I0 x0_0 x0_1 → ∀ x1_0 x1_1 x1_2 x1_3 x1_4 x1_5 x1_6, I1 x0_0 x0_1 x1_0 x1_1 x1_2 x1_3 x1_4 x1_5 x1_6 → ((D.int (fn 78 [[D.i a0], [D.l a1], [D.i a2]] 0 0)) = 0) → (¬ x0_1 < (a1.length : Int)) → (¬ x1_3 < (x0_0.length : Int)) → R 0 0 = D.l x1_4
  g43 : ∀ x0_0 x0_1, I0 x0_0 x0_1 → ∀ x1_0 x1_1 x1_2 x1_3 x1_4 x1_5 x1_6, I1 x0_0 x0_1 x1_0 x1_1 x1_2 x1_3 x1_4 x1_5 x1_6 → ((D.int (fn 78 [[D.i a0], [D.l a1], [D.i a2]] 0 0)) = 0) → (¬ x0_1 < (a1.length : Int)) → (¬ x1_3 < (x0_0.length : Int)) → R 0 1 = D.i x1_5
  g44 : ∀ x0_0 x0_1, I0 x0_0 x0_1 → ∀ x1_0 x1_1 x1_2 x1_3 x1_4 x1_5 x1_6, I1 x0_0 x0_1 x1_0 x1_1 x1_2 x1_3 x1_4 x1_5 x1_6 → ((D.int (fn 78 [[D.i a0], [D.l a1], [D.i a2]] 0 0)) = 0) → (¬ x0_1 < (a1.length : Int)) → (¬ x1_3 < (x0_0.length : Int)) → R 0 2 = D.l x1_6
  g45 : ∀ x0_0 x0_1, I0 x0_0 x0_1 → ∀ x1_0 x1_1 x1_2 x1_3 x1_4 x1_5 x1_6, I1 x0_0 x0_1 x1_0 x1_1 x1_2 x1_3 x1_4 x1_5 x1_6 → ((D.int (fn 78 [[D.i a0], [D.l a1], [D.i a2]] 0 0)) = 0) → (¬ x0_1 < (a1.length : Int)) → (¬ x1_3 < (x0_0.length : Int)) → R 1 0 = D.i 0
end HX

namespace HX
open Go Go.Proofs CX
structure V40 (pre : Nat → List (List D) → Prop) (fn : Nat → List (List D) → Nat → Nat → D) (a0 : Int) (a1 : Rows) (a2 : Int) (R : Nat → Nat → D) (I0 : Int → Int → Int → Rows → Int → Rows → Prop) (m0 : Int → Int → Int → Rows → Int → Rows → Nat) (I1 : Int → Int → Int → Rows → Int → Rows → Int → Rows → Int → Rows → Prop) (m1 : Int → Int → Int → Rows → Int → Rows → Int → Rows → Int → Rows → Nat) (I2 : Int → Int → Int → Rows → Int → Rows → Int → Rows → Int → Rows → Int → Rows → Int → Rows → Prop) (m2 : Int → Int → Int → Rows → Int → Rows → Int → Rows → Int → Rows → Int → Rows → Int → Rows → Nat) : Prop where
  g0 : pre 82 [[D.i a0], [D.l a1], [D.i a2]]
  g1 : (¬ (D.int (fn 82 [[D.i a0], [D.l a1], [D.i a2]] 0 0)) = 0) → R 0 0 = D.l []
  g2 : (¬ (D.int (fn 82 [[D.i a0], [D.l a1], [D.i a2]] 0 0)) = 0) → R 0 1 = D.i 0
  g3 : (¬ (D.int (fn 82 [[D.i a0], [D.l a1], [D.i a2]] 0 0)) = 0) → R 0 2 = D.l []
  g4 : (¬ (D.int (fn 82 [[D.i a0], [D.l a1], [D.i a2]] 0 0)) = 0) → R 1 0 = D.i (D.int (fn 82 [[D.i a0], [D.l a1], [D.i a2]] 0 0))
  g5 : ((D.int (fn 82 [[D.i a0], [D.l a1], [D.i a2]] 0 0)) = 0) → -9223372036854775808 ≤ (a0 + 1) ∧ (a0 + 1) ≤ 9223372036854775807
  g6 : ((D.int (fn 82 [[D.i a0], [D.l a1], [D.i a2]] 0 0)) = 0) → -9223372036854775808 ≤ (2 * (a1.length : Int)) ∧ (2 * (a1.length : Int)) ≤ 9223372036854775807
  g7 : ((D.int (fn 82 [[D.i a0], [D.l a1], [D.i a2]] 0 0)) = 0) → -9223372036854775808 ≤ ((a0 + 1) + (2 * (a1.length : Int))) ∧ ((a0 + 1) + (2 * (a1.length : Int))) ≤ 9223372036854775807
  i0 : ((D.int (fn 82 [[D.i a0], [D.l a1], [D.i a2]] 0 0)) = 0) → I0 0 0 0 [] ((a0 + 1) + (2 * (a1.length : Int))) []
  i1 : ∀ x0_0 x0_1 x0_2 x0_3 x0_4 x0_5, I0 x0_0 x0_1 x0_2 x0_3 x0_4 x0_5 → ((D.int (fn 82 [[D.i a0], [D.l a1], [D.i a2]] 0 0)) = 0) → (x0_2 < (a1.length : Int)) → I1 x0_0 x0_1 x0_2 x0_3 x0_4 x0_5 0 x0_3 x0_4 x0_5
  g10 : ∀ x0_0 x0_1 x0_2 x0_3 x0_4 x0_5, I0 x0_0 x0_1 x0_2 x0_3 x0_4 x0_5 → ∀ x1_0 x1_1 x1_2 x1_3, I1 x0_0 x0_1 x0_2 x0_3 x0_4 x0_5 x1_0 x1_1 x1_2 x1_3 → ((D.int (fn 82 [[D.i a0], [D.l a1], [D.i a2]] 0 0)) = 0) → (x0_2 < (a1.length : Int)) → 0 ≤ x0_2
  g11 : ∀ x0_0 x0_1 x0_2 x0_3 x0_4 x0_5, I0 x0_0 x0_1 x0_2 x0_3 x0_4 x0_5 → ∀ x1_0 x1_1 x1_2 x1_3, I1 x0_0 x0_1 x0_2 x0_3 x0_4 x0_5 x1_0 x1_1 x1_2 x1_3 → ((D.int (fn 82 [[D.i a0], [D.l a1], [D.i a2]] 0 0)) = 0) → (x0_2 < (a1.length : Int)) → x0_2 < (a1.length : Int)
  g12 : ∀ x0_0 x0_1 x0_2 x0_3 x0_4 x0_5, I0 x0_0 x0_1 x0_2 x0_3 x0_4 x0_5 → ∀ x1_0 x1_1 x1_2 x1_3, I1 x0_0 x0_1 x0_2 x0_3 x0_4 x0_5 x1_0 x1_1 x1_2 x1_3 → ((D.int (fn 82 [[D.i a0], [D.l a1], [D.i a2]] 0 0)) = 0) → (x0_2 < (a1.length : Int)) → (x1_0 < ((D.rows (gt a1 x0_2.toNat 0)).length : Int)) → 0 ≤ x0_2
  g13 : ∀ x0_0 x0_1 x0_2 x0_3 x0_4 x0_5, I0 x0_0 x0_1 x0_2 x0_3 x0_4 x0_5 → ∀ x1_0 x1_1 x1_2 x1_3, I1 x0_0 x0_1 x0_2 x0_3 x0_4 x0_5 x1_0 x1_1 x1_2 x1_3 → ((D.int (fn 82 [[D.i a0], [D.l a1], [D.i a2]] 0 0)) = 0) → (x0_2 < (a1.length : Int)) → (x1_0 < ((D.rows (gt a1 x0_2.toNat 0)).length : Int)) → x0_2 < (a1.length : Int)
  g14 : ∀ x0_0 x0_1 x0_2 x0_3 x0_4 x0_5, I0 x0_0 x0_1 x0_2 x0_3 x0_4 x0_5 → ∀ x1_0 x1_1 x1_2 x1_3, I1 x0_0 x0_1 x0_2 x0_3 x0_4 x0_5 x1_0 x1_1 x1_2 x1_3 → ((D.int (fn 82 [[D.i a0], [D.l a1], [D.i a2]] 0 0)) = 0) → (x0_2 < (a1.length : Int)) → (x1_0 < ((D.rows (gt a1 x0_2.toNat 0)).length : Int)) → 0 ≤ x1_0
  g15 : ∀ x0_0 x0_1 x0_2 x0_3 x0_4 x0_5, I0 x0_0 x0_1 x0_2 x0_3 x0_4 x0_5 → ∀ x1_0 x1_1 x1_2 x1_3, I1 x0_0 x0_1 x0_2 x0_3 x0_4 x0_5 x1_0 x1_1 x1_2 x1_3 → ((D.int (fn 82 [[D.i a0], [D.l a1], [D.i a2]] 0 0)) = 0) → (x0_2 < (a1.length : Int)) → (x1_0 < ((D.rows (gt a1 x0_2.toNat 0)).length : Int)) → x1_0 < ((D.rows (gt a1 x0_2.toNat 0)).length : Int)
  g16 : ∀ x0_0 x0_1 x0_2 x0_3 x0_4 x0_5, I0 x0_0 x0_1 x0_2 x0_3 x0_4 x0_5 → ∀ x1_0 x1_1 x1_2 x1_3, I1 x0_0 x0_1 x0_2 x0_3 x0_4 x0_5 x1_0 x1_1 x1_2 x1_3 → ((D.int (fn 82 [[D.i a0], [D.l a1], [D.i a2]] 0 0)) = 0) → (x0_2 < (a1.length : Int)) → (x1_0 < ((D.rows (gt a1 x0_2.toNat 0)).length : Int)) → (x1_1.length + (List.length [[D.i 0, D.i 0, D.i 0, D.i (D.int (gt (D.rows (gt a1 x0_2.toNat 0)) x1_0.toNat 2)), D.i 1, D.i 0, D.i (-1048576), D.i 0]])) * 64 ≤ 4294967296 ∧ (x1_1.length + (List.length [[D.i 0, D.i 0, D.i 0, D.i (D.int (gt (D.rows (gt a1 x0_2.toNat 0)) x1_0.toNat 2)), D.i 1, D.i 0, D.i (-1048576), D.i 0]])) ≤ 4294967296
  i2 : ∀ x0_0 x0_1 x0_2 x0_3 x0_4 x0_5, I0 x0_0 x0_1 x0_2 x0_3 x0_4 x0_5 → ∀ x1_0 x1_1 x1_2 x1_3, I1 x0_0 x0_1 x0_2 x0_3 x0_4 x0_5 x1_0 x1_1 x1_2 x1_3 → ((D.int (fn 82 [[D.i a0], [D.l a1], [D.i a2]] 0 0)) = 0) → (x0_2 < (a1.length : Int)) → (x1_0 < ((D.rows (gt a1 x0_2.toNat 0)).length : Int)) → I2 x0_0 x0_1 x0_2 x0_3 x0_4 x0_5 x1_0 x1_1 x1_2 x1_3 0 (x1_1 ++ [[D.i 0, D.i 0, D.i 0, D.i (D.int (gt (D.rows (gt a1 x0_2.toNat 0)) x1_0.toNat 2)), D.i 1, D.i 0, D.i (-1048576), D.i 0]]) x1_2 x1_3
  g18 : ∀ x0_0 x0_1 x0_2 x0_3 x0_4 x0_5, I0 x0_0 x0_1 x0_2 x0_3 x0_4 x0_5 → ∀ x1_0 x1_1 x1_2 x1_3, I1 x0_0 x0_1 x0_2 x0_3 x0_4 x0_5 x1_0 x1_1 x1_2 x1_3 → ∀ x2_0 x2_1 x2_2 x2_3, I2 x0_0 x0_1 x0_2 x0_3 x0_4 x0_5 x1_0 x1_1 x1_2 x1_3 x2_0 x2_1 x2_2 x2_3 → ((D.int (fn 82 [[D.i a0], [D.l a1], [D.i a2]] 0 0)) = 0) → (x0_2 < (a1.length : Int)) → (x1_0 < ((D.rows (gt a1 x0_2.toNat 0)).length : Int)) → (x2_0 < (((D.rows (gt (D.rows (gt a1 x0_2.toNat 0)) x1_0.toNat 0)).length : Int))) → -9223372036854775808 ≤ (x0_0 + x2_0) ∧ (x0_0 + x2_0) ≤ 9223372036854775807
  g19 : ∀ x0_0 x0_1 x0_2 x0_3 x0_4 x0_5, I0 x0_0 x0_1 x0_2 x0_3 x0_4 x0_5 → ∀ x1_0 x1_1 x1_2 x1_3, I1 x0_0 x0_1 x0_2 x0_3 x0_4 x0_5 x1_0 x1_1 x1_2 x1_3 → ∀ x2_0 x2_1 x2_2 x2_3, I2 x0_0 x0_1 x0_2 x0_3 x0_4 x0_5 x1_0 x1_1 x1_2 x1_3 x2_0 x2_1 x2_2 x2_3 → ((D.int (fn 82 [[D.i a0], [D.l a1], [D.i a2]] 0 0)) = 0) → (x0_2 < (a1.length : Int)) → (x1_0 < ((D.rows (gt a1 x0_2.toNat 0)).length : Int)) → (x2_0 < (((D.rows (gt (D.rows (gt a1 x0_2.toNat 0)) x1_0.toNat 0)).length : Int))) → (x0_2 = 0) → -9223372036854775808 ≤ ((-1) - x2_0) ∧ ((-1) - x2_0) ≤ 9223372036854775807
  g20 : ∀ x0_0 x0_1 x0_2 x0_3 x0_4 x0_5, I0 x0_0 x0_1 x0_2 x0_3 x0_4 x0_5 → ∀ x1_0 x1_1 x1_2 x1_3, I1 x0_0 x0_1 x0_2 x0_3 x0_4 x0_5 x1_0 x1_1 x1_2 x1_3 → ∀ x2_0 x2_1 x2_2 x2_3, I2 x0_0 x0_1 x0_2 x0_3 x0_4 x0_5 x1_0 x1_1 x1_2 x1_3 x2_0 x2_1 x2_2 x2_3 → ((D.int (fn 82 [[D.i a0], [D.l a1], [D.i a2]] 0 0)) = 0) → (x0_2 < (a1.length : Int)) → (x1_0 < ((D.rows (gt a1 x0_2.toNat 0)).length : Int)) → (x2_0 < (((D.rows (gt (D.rows (gt a1 x0_2.toNat 0)) x1_0.toNat 0)).length : Int))) → (x0_2 = 0) → -9223372036854775808 ≤ (x0_1 + x1_0) ∧ (x0_1 + x1_0) ≤ 9223372036854775807
  g21 : ∀ x0_0 x0_1 x0_2 x0_3 x0_4 x0_5, I0 x0_0 x0_1 x0_2 x0_3 x0_4 x0_5 → ∀ x1_0 x1_1 x1_2 x1_3, I1 x0_0 x0_1 x0_2 x0_3 x0_4 x0_5 x1_0 x1_1 x1_2 x1_3 → ∀ x2_0 x2_1 x2_2 x2_3, I2 x0_0 x0_1 x0_2 x0_3 x0_4 x0_5 x1_0 x1_1 x1_2 x1_3 x2_0 x2_1 x2_2 x2_3 → ((D.int (fn 82 [[D.i a0], [D.l a1], [D.i a2]] 0 0)) = 0) → (x0_2 < (a1.length : Int)) → (x1_0 < ((D.rows (gt a1 x0_2.toNat 0)).length : Int)) → (x2_0 < (((D.rows (gt (D.rows (gt a1 x0_2.toNat 0)) x1_0.toNat 0)).length : Int))) → (x0_2 = 0) → 0 ≤ x2_0
  g22 : ∀ x0_0 x0_1 x0_2 x0_3 x0_4 x0_5, I0 x0_0 x0_1 x0_2 x0_3 x0_4 x0_5 → ∀ x1_0 x1_1 x1_2 x1_3, I1 x0_0 x0_1 x0_2 x0_3 x0_4 x0_5 x1_0 x1_1 x1_2 x1_3 → ∀ x2_0 x2_1 x2_2 x2_3, I2 x0_0 x0_1 x0_2 x0_3 x0_4 x0_5 x1_0 x1_1 x1_2 x1_3 x2_0 x2_1 x2_2 x2_3 → ((D.int (fn 82 [[D.i a0], [D.l a1], [D.i a2]] 0 0)) = 0) → (x0_2 < (a1.length : Int)) → (x1_0 < ((D.rows (gt a1 x0_2.toNat 0)).length : Int)) → (x2_0 < (((D.rows (gt (D.rows (gt a1 x0_2.toNat 0)) x1_0.toNat 0)).length : Int))) → (x0_2 = 0) → x2_0 < (((D.rows (gt (D.rows (gt a1 x0_2.toNat 0)) x1_0.toNat 0)).length : Int))
  g23 : ∀ x0_0 x0_1 x0_2 x0_3 x0_4 x0_5, I0 x0_0 x0_1 x0_2 x0_3 x0_4 x0_5 → ∀ x1_0 x1_1 x1_2 x1_3, I1 x0_0 x0_1 x0_2 x0_3 x0_4 x0_5 x1_0 x1_1 x1_2 x1_3 → ∀ x2_0 x2_1 x2_2 x2_3, I2 x0_0 x0_1 x0_2 x0_3 x0_4 x0_5 x1_0 x1_1 x1_2 x1_3 x2_0 x2_1 x2_2 x2_3 → ((D.int (fn 82 [[D.i a0], [D.l a1], [D.i a2]] 0 0)) = 0) → (x0_2 < (a1.length : Int)) → (x1_0 < ((D.rows (gt a1 x0_2.toNat 0)).length : Int)) → (x2_0 < (((D.rows (gt (D.rows (gt a1 x0_2.toNat 0)) x1_0.toNat 0)).length : Int))) → (x0_2 = 0) → (x2_3.length + (List.length [[D.i ((-1) - x2_0), D.i (x0_1 + x1_0), D.i (D.int (gt (D.rows (gt (D.rows (gt a1 x0_2.toNat 0)) x1_0.toNat 0)) x2_0.toNat 0)), D.i 1]])) * 32 ≤ 4294967296 ∧ (x2_3.length + (List.length [[D.i ((-1) - x2_0), D.i (x0_1 + x1_0), D.i (D.int (gt (D.rows (gt (D.rows (gt a1 x0_2.toNat 0)) x1_0.toNat 0)) x2_0.toNat 0)), D.i 1]])) ≤ 4294967296
  g24 : ∀ x0_0 x0_1 x0_2 x0_3 x0_4 x0_5, I0 x0_0 x0_1 x0_2 x0_3 x0_4 x0_5 → ∀ x1_0 x1_1 x1_2 x1_3, I1 x0_0 x0_1 x0_2 x0_3 x0_4 x0_5 x1_0 x1_1 x1_2 x1_3 → ∀ x2_0 x2_1 x2_2 x2_3, I2 x0_0 x0_1 x0_2 x0_3 x0_4 x0_5 x1_0 x1_1 x1_2 x1_3 x2_0 x2_1 x2_2 x2_3 → ((D.int (fn 82 [[D.i a0], [D.l a1], [D.i a2]] 0 0)) = 0) → (x0_2 < (a1.length : Int)) → (x1_0 < ((D.rows (gt a1 x0_2.toNat 0)).length : Int)) → (x2_0 < (((D.rows (gt (D.rows (gt a1 x0_2.toNat 0)) x1_0.toNat 0)).length : Int))) → (x0_2 = 0) → -9223372036854775808 ≤ (x2_0 + 1) ∧ (x2_0 + 1) ≤ 9223372036854775807
  n25 : ∀ x0_0 x0_1 x0_2 x0_3 x0_4 x0_5, I0 x0_0 x0_1 x0_2 x0_3 x0_4 x0_5 → ∀ x1_0 x1_1 x1_2 x1_3, I1 x0_0 x0_1 x0_2 x0_3 x0_4 x0_5 x1_0 x1_1 x1_2 x1_3 → ∀ x2_0 x2_1 x2_2 x2_3, I2 x0_0 x0_1 x0_2 x0_3 x0_4 x0_5 x1_0 x1_1 x1_2 x1_3 x2_0 x2_1 x2_2 x2_3 → ((D.int (fn 82 [[D.i a0], [D.l a1], [D.i a2]] 0 0)) = 0) → (x0_2 < (a1.length : Int)) → (x1_0 < ((D.rows (gt a1 x0_2.toNat 0)).length : Int)) → (x2_0 < (((D.rows (gt (D.rows (gt a1 x0_2.toNat 0)) x1_0.toNat 0)).length : Int))) → (x0_2 = 0) → I2 x0_0 x0_1 x0_2 x0_3 x0_4 x0_5 x1_0 x1_1 x1_2 x1_3 (x2_0 + 1) x2_1 x2_2 (x2_3 ++ [[D.i ((-1) - x2_0), D.i (x0_1 + x1_0), D.i (D.int (gt (D.rows (gt (D.rows (gt a1 x0_2.toNat 0)) x1_0.toNat 0)) x2_0.toNat 0)), D.i 1]]) ∧ m2 x0_0 x0_1 x0_2 x0_3 x0_4 x0_5 x1_0 x1_1 x1_2 x1_3 (x2_0 + 1) x2_1 x2_2 (x2_3 ++ [[D.i ((-1) - x2_0), D.i (x0_1 + x1_0), D.i (D.int (gt (D.rows (gt (D.rows (gt a1 x0_2.toNat 0)) x1_0.toNat 0)) x2_0.toNat 0)), D.i 1]]) < m2 x0_0 x0_1 x0_2 x0_3 x0_4 x0_5 x1_0 x1_1 x1_2 x1_3 x2_0 x2_1 x2_2 x2_3
  g26 : ∀ x0_0 x0_1 x0_2 x0_3 x0_4 x0_5, I0 x0_0 x0_1 x0_2 x0_3 x0_4 x0_5 → ∀ x1_0 x1_1 x1_2 x1_3, I1 x0_0 x0_1 x0_2 x0_3 x0_4 x0_5 x1_0 x1_1 x1_2 x1_3 → ∀ x2_0 x2_1 x2_2 x2_3, I2 x0_0 x0_1 x0_2 x0_3 x0_4 x0_5 x1_0 x1_1 x1_2 x1_3 x2_0 x2_1 x2_2 x2_3 → ((D.int (fn 82 [[D.i a0], [D.l a1], [D.i a2]] 0 0)) = 0) → (x0_2 < (a1.length : Int)) → (x1_0 < ((D.rows (gt a1 x0_2.toNat 0)).length : Int)) → (x2_0 < (((D.rows (gt (D.rows (gt a1 x0_2.toNat 0)) x1_0.toNat 0)).length : Int))) → (¬ x0_2 = 0) → -9223372036854775808 ≤ (x0_1 + x1_0) ∧ (x0_1 + x1_0) ≤ 9223372036854775807
  g27 : ∀ x0_0 x0_1 x0_2 x0_3 x0_4 x0_5, I0 x0_0 x0_1 x0_2 x0_3 x0_4 x0_5 → ∀ x1_0 x1_1 x1_2 x1_3, I1 x0_0 x0_1 x0_2 x0_3 x0_4 x0_5 x1_0 x1_1 x1_2 x1_3 → ∀ x2_0 x2_1 x2_2 x2_3, I2 x0_0 x0_1 x0_2 x0_3 x0_4 x0_5 x1_0 x1_1 x1_2 x1_3 x2_0 x2_1 x2_2 x2_3 → ((D.int (fn 82 [[D.i a0], [D.l a1], [D.i a2]] 0 0)) = 0) → (x0_2 < (a1.length : Int)) → (x1_0 < ((D.rows (gt a1 x0_2.toNat 0)).length : Int)) → (x2_0 < (((D.rows (gt (D.rows (gt a1 x0_2.toNat 0)) x1_0.toNat 0)).length : Int))) → (¬ x0_2 = 0) → 0 ≤ x2_0
  g28 : ∀ x0_0 x0_1 x0_2 x0_3 x0_4 x0_5, I0 x0_0 x0_1 x0_2 x0_3 x0_4 x0_5 → ∀ x1_0 x1_1 x1_2 x1_3, I1 x0_0 x0_1 x0_2 x0_3 x0_4 x0_5 x1_0 x1_1 x1_2 x1_3 → ∀ x2_0 x2_1 x2_2 x2_3, I2 x0_0 x0_1 x0_2 x0_3 x0_4 x0_5 x1_0 x1_1 x1_2 x1_3 x2_0 x2_1 x2_2 x2_3 → ((D.int (fn 82 [[D.i a0], [D.l a1], [D.i a2]] 0 0)) = 0) → (x0_2 < (a1.length : Int)) → (x1_0 < ((D.rows (gt a1 x0_2.toNat 0)).length : Int)) → (x2_0 < (((D.rows (gt (D.rows (gt a1 x0_2.toNat 0)) x1_0.toNat 0)).length : Int))) → (¬ x0_2 = 0) → x2_0 < (((D.rows (gt (D.rows (gt a1 x0_2.toNat 0)) x1_0.toNat 0)).length : Int))
  g29 : ∀ x0_0 x0_1 x0_2 x0_3 x0_4 x0_5, I0 x0_0 x0_1 x0_2 x0_3 x0_4 x0_5 → ∀ x1_0 x1_1 x1_2 x1_3, I1 x0_0 x0_1 x0_2 x0_3 x0_4 x0_5 x1_0 x1_1 x1_2 x1_3 → ∀ x2_0 x2_1 x2_2 x2_3, I2 x0_0 x0_1 x0_2 x0_3 x0_4 x0_5 x1_0 x1_1 x1_2 x1_3 x2_0 x2_1 x2_2 x2_3 → ((D.int (fn 82 [[D.i a0], [D.l a1], [D.i a2]] 0 0)) = 0) → (x0_2 < (a1.length : Int)) → (x1_0 < ((D.rows (gt a1 x0_2.toNat 0)).length : Int)) → (x2_0 < (((D.rows (gt (D.rows (gt a1 x0_2.toNat 0)) x1_0.toNat 0)).length : Int))) → (¬ x0_2 = 0) → (x2_3.length + (List.length [[D.i (x0_0 + x2_0), D.i (x0_1 + x1_0), D.i (D.int (gt (D.rows (gt (D.rows (gt a1 x0_2.toNat 0)) x1_0.toNat 0)) x2_0.toNat 0)), D.i 1]])) * 32 ≤ 4294967296 ∧ (x2_3.length + (List.length [[D.i (x0_0 + x2_0), D.i (x0_1 + x1_0), D.i (D.int (gt (D.rows (gt (D.rows (gt a1 x0_2.toNat 0)) x1_0.toNat 0)) x2_0.toNat 0)), D.i 1]])) ≤ 4294967296
  g30 : ∀ x0_0 x0_1 x0_2 x0_3 x0_4 x0_5, I0 x0_0 x0_1 x0_2 x0_3 x0_4 x0_5 → ∀ x1_0 x1_1 x1_2 x1_3, I1 x0_0 x0_1 x0_2 x0_3 x0_4 x0_5 x1_0 x1_1 x1_2 x1_3 → ∀ x2_0 x2_1 x2_2 x2_3, I2 x0_0 x0_1 x0_2 x0_3 x0_4 x0_5 x1_0 x1_1 x1_2 x1_3 x2_0 x2_1 x2_2 x2_3 → ((D.int (fn 82 [[D.i a0], [D.l a1], [D.i a2]] 0 0)) = 0) → (x0_2 < (a1.length : Int)) → (x1_0 < ((D.rows (gt a1 x0_2.toNat 0)).length : Int)) → (x2_0 < (((D.rows (gt (D.rows (gt a1 x0_2.toNat 0)) x1_0.toNat 0)).length : Int))) → (¬ x0_2 = 0) → -9223372036854775808 ≤ (x2_0 + 1) ∧ (x2_0 + 1) ≤ 9223372036854775807
  n31 : ∀ x0_0 x0_1 x0_2 x0_3 x0_4 x0_5, I0 x0_0 x0_1 x0_2 x0_3 x0_4 x0_5 → ∀ x1_0 x1_1 x1_2 x1_3, I1 x0_0 x0_1 x0_2 x0_3 x0_4 x0_5 x1_0 x1_1 x1_2 x1_3 → ∀ x2_0 x2_1 x2_2 x2_3, I2 x0_0 x0_1 x0_2 x0_3 x0_4 x0_5 x1_0 x1_1 x1_2 x1_3 x2_0 x2_1 x2_2 x2_3 → ((D.int (fn 82 [[D.i a0], [D.l a1], [D.i a2]] 0 0)) = 0) → (x0_2 < (a1.length : Int)) → (x1_0 < ((D.rows (gt a1 x0_2.toNat 0)).length : Int)) → (x2_0 < (((D.rows (gt (D.rows (gt a1 x0_2.toNat 0)) x1_0.toNat 0)).length : Int))) → (¬ x0_2 = 0) → I2 x0_0 x0_1 x0_2 x0_3 x0_4 x0_5 x1_0 x1_1 x1_2 x1_3 (x2_0 + 1) x2_1 x2_2 (x2_3 ++ [[D.i (x0_0 + x2_0), D.i (x0_1 + x1_0), D.i (D.int (gt (D.rows (gt (D.rows (gt a1 x0_2.toNat 0)) x1_0.toNat 0)) x2_0.toNat 0)), D.i 1]]) ∧ m2 x0_0 x0_1 x0_2 x0_3 x0_4 x0_5 x1_0 x1_1 x1_2 x1_3 (x2_0 + 1) x2_1 x2_2 (x2_3 ++ [[D.i (x0_0 + x2_0), D.i (x0_1 + x1_0), D.i (D.int (gt (D.rows (gt (D.rows (gt a1 x0_2.toNat 0)) x1_0.toNat 0)) x2_0.toNat 0)), D.i 1]]) < m2 x0_0 x0_1 x0_2 x0_3 x0_4 x0_5 x1_0 x1_1 x1_2 x1_3 x2_0 x2_1 x2_2 x2_3
  g32 : ∀ x0_0 x0_1 x0_2 x0_3 x0_4 x0_5, I0 x0_0 x0_1 x0_2 x0_3 x0_4 x0_5 → ∀ x1_0 x1_1 x1_2 x1_3, I1 x0_0 x0_1 x0_2 x0_3 x0_4 x0_5 x1_0 x1_1 x1_2 x1_3 → ∀ x2_0 x2_1 x2_2 x2_3, I2 x0_0 x0_1 x0_2 x0_3 x0_4 x0_5 x1_0 x1_1 x1_2 x1_3 x2_0 x2_1 x2_2 x2_3 → ((D.int (fn 82 [[D.i a0], [D.l a1], [D.i a2]] 0 0)) = 0) → (x0_2 < (a1.length : Int)) → (x1_0 < ((D.rows (gt a1 x0_2.toNat 0)).length : Int)) → (¬ x2_0 < (((D.rows (gt (D.rows (gt a1 x0_2.toNat 0)) x1_0.toNat 0)).length : Int))) → -9223372036854775808 ≤ (a0 + 1) ∧ (a0 + 1) ≤ 9223372036854775807
  g33 : ∀ x0_0 x0_1 x0_2 x0_3 x0_4 x0_5, I0 x0_0 x0_1 x0_2 x0_3 x0_4 x0_5 → ∀ x1_0 x1_1 x1_2 x1_3, I1 x0_0 x0_1 x0_2 x0_3 x0_4 x0_5 x1_0 x1_1 x1_2 x1_3 → ∀ x2_0 x2_1 x2_2 x2_3, I2 x0_0 x0_1 x0_2 x0_3 x0_4 x0_5 x1_0 x1_1 x1_2 x1_3 x2_0 x2_1 x2_2 x2_3 → ((D.int (fn 82 [[D.i a0], [D.l a1], [D.i a2]] 0 0)) = 0) → (x0_2 < (a1.length : Int)) → (x1_0 < ((D.rows (gt a1 x0_2.toNat 0)).length : Int)) → (¬ x2_0 < (((D.rows (gt (D.rows (gt a1 x0_2.toNat 0)) x1_0.toNat 0)).length : Int))) → -9223372036854775808 ≤ (2 * x0_2) ∧ (2 * x0_2) ≤ 9223372036854775807
  g34 : ∀ x0_0 x0_1 x0_2 x0_3 x0_4 x0_5, I0 x0_0 x0_1 x0_2 x0_3 x0_4 x0_5 → ∀ x1_0 x1_1 x1_2 x1_3, I1 x0_0 x0_1 x0_2 x0_3 x0_4 x0_5 x1_0 x1_1 x1_2 x1_3 → ∀ x2_0 x2_1 x2_2 x2_3, I2 x0_0 x0_1 x0_2 x0_3 x0_4 x0_5 x1_0 x1_1 x1_2 x1_3 x2_0 x2_1 x2_2 x2_3 → ((D.int (fn 82 [[D.i a0], [D.l a1], [D.i a2]] 0 0)) = 0) → (x0_2 < (a1.length : Int)) → (x1_0 < ((D.rows (gt a1 x0_2.toNat 0)).length : Int)) → (¬ x2_0 < (((D.rows (gt (D.rows (gt a1 x0_2.toNat 0)) x1_0.toNat 0)).length : Int))) → -9223372036854775808 ≤ ((a0 + 1) + (2 * x0_2)) ∧ ((a0 + 1) + (2 * x0_2)) ≤ 9223372036854775807
  g35 : ∀ x0_0 x0_1 x0_2 x0_3 x0_4 x0_5, I0 x0_0 x0_1 x0_2 x0_3 x0_4 x0_5 → ∀ x1_0 x1_1 x1_2 x1_3, I1 x0_0 x0_1 x0_2 x0_3 x0_4 x0_5 x1_0 x1_1 x1_2 x1_3 → ∀ x2_0 x2_1 x2_2 x2_3, I2 x0_0 x0_1 x0_2 x0_3 x0_4 x0_5 x1_0 x1_1 x1_2 x1_3 x2_0 x2_1 x2_2 x2_3 → ((D.int (fn 82 [[D.i a0], [D.l a1], [D.i a2]] 0 0)) = 0) → (x0_2 < (a1.length : Int)) → (x1_0 < ((D.rows (gt a1 x0_2.toNat 0)).length : Int)) → (¬ x2_0 < (((D.rows (gt (D.rows (gt a1 x0_2.toNat 0)) x1_0.toNat 0)).length : Int))) → -9223372036854775808 ≤ ((-1) - ((a0 + 1) + (2 * x0_2))) ∧ ((-1) - ((a0 + 1) + (2 * x0_2))) ≤ 9223372036854775807
  g36 : ∀ x0_0 x0_1 x0_2 x0_3 x0_4 x0_5, I0 x0_0 x0_1 x0_2 x0_3 x0_4 x0_5 → ∀ x1_0 x1_1 x1_2 x1_3, I1 x0_0 x0_1 x0_2 x0_3 x0_4 x0_5 x1_0 x1_1 x1_2 x1_3 → ∀ x2_0 x2_1 x2_2 x2_3, I2 x0_0 x0_1 x0_2 x0_3 x0_4 x0_5 x1_0 x1_1 x1_2 x1_3 x2_0 x2_1 x2_2 x2_3 → ((D.int (fn 82 [[D.i a0], [D.l a1], [D.i a2]] 0 0)) = 0) → (x0_2 < (a1.length : Int)) → (x1_0 < ((D.rows (gt a1 x0_2.toNat 0)).length : Int)) → (¬ x2_0 < (((D.rows (gt (D.rows (gt a1 x0_2.toNat 0)) x1_0.toNat 0)).length : Int))) → -9223372036854775808 ≤ ((-1) - a0) ∧ ((-1) - a0) ≤ 9223372036854775807
  g37 : ∀ x0_0 x0_1 x0_2 x0_3 x0_4 x0_5, I0 x0_0 x0_1 x0_2 x0_3 x0_4 x0_5 → ∀ x1_0 x1_1 x1_2 x1_3, I1 x0_0 x0_1 x0_2 x0_3 x0_4 x0_5 x1_0 x1_1 x1_2 x1_3 → ∀ x2_0 x2_1 x2_2 x2_3, I2 x0_0 x0_1 x0_2 x0_3 x0_4 x0_5 x1_0 x1_1 x1_2 x1_3 x2_0 x2_1 x2_2 x2_3 → ((D.int (fn 82 [[D.i a0], [D.l a1], [D.i a2]] 0 0)) = 0) → (x0_2 < (a1.length : Int)) → (x1_0 < ((D.rows (gt a1 x0_2.toNat 0)).length : Int)) → (¬ x2_0 < (((D.rows (gt (D.rows (gt a1 x0_2.toNat 0)) x1_0.toNat 0)).length : Int))) → -9223372036854775808 ≤ (x0_1 + x1_0) ∧ (x0_1 + x1_0) ≤ 9223372036854775807
  g38 : ∀ x0_0 x0_1 x0_2 x0_3 x0_4 x0_5, I0 x0_0 x0_1 x0_2 x0_3 x0_4 x0_5 → ∀ x1_0 x1_1 x1_2 x1_3, I1 x0_0 x0_1 x0_2 x0_3 x0_4 x0_5 x1_0 x1_1 x1_2 x1_3 → ∀ x2_0 x2_1 x2_2 x2_3, I2 x0_0 x0_1 x0_2 x0_3 x0_4 x0_5 x1_0 x1_1 x1_2 x1_3 x2_0 x2_1 x2_2 x2_3 → ((D.int (fn 82 [[D.i a0], [D.l a1], [D.i a2]] 0 0)) = 0) → (x0_2 < (a1.length : Int)) → (x1_0 < ((D.rows (gt a1 x0_2.toNat 0)).length : Int)) → (¬ x2_0 < (((D.rows (gt (D.rows (gt a1 x0_2.toNat 0)) x1_0.toNat 0)).length : Int))) → (x2_3.length + (List.length [[D.i ((-1) - a0), D.i (x0_1 + x1_0), D.i (-32768), D.i 1]])) * 32 ≤ 4294967296 ∧ (x2_3.length + (List.length [[D.i ((-1) - a0), D.i (x0_1 + x1_0), D.i (-32768), D.i 1]])) ≤ 4294967296
  g40 : ∀ x0_0 x0_1 x0_2 x0_3 x0_4 x0_5, I0 x0_0 x0_1 x0_2 x0_3 x0_4 x0_5 → ∀ x1_0 x1_1 x1_2 x1_3, I1 x0_0 x0_1 x0_2 x0_3 x0_4 x0_5 x1_0 x1_1 x1_2 x1_3 → ∀ x2_0 x2_1 x2_2 x2_3, I2 x0_0 x0_1 x0_2 x0_3 x0_4 x0_5 x1_0 x1_1 x1_2 x1_3 x2_0 x2_1 x2_2 x2_3 → ((D.int (fn 82 [[D.i a0], [D.l a1], [D.i a2]] 0 0)) = 0) → (x0_2 < (a1.length : Int)) → (x1_0 < ((D.rows (gt a1 x0_2.toNat 0)).length : Int)) → (¬ x2_0 < (((D.rows (gt (D.rows (gt a1 x0_2.toNat 0)) x1_0.toNat 0)).length : Int))) → ((List.length (x2_3 ++ [[D.i ((-1) - a0), D.i (x0_1 + x1_0), D.i (-32768), D.i 1]])) + (List.length [[D.i ((-1) - ((a0 + 1) + (2 * x0_2))), D.i (x0_1 + x1_0), D.i 32768, D.i 1]])) * 32 ≤ 4294967296 ∧ ((List.length (x2_3 ++ [[D.i ((-1) - a0), D.i (x0_1 + x1_0), D.i (-32768), D.i 1]])) + (List.length [[D.i ((-1) - ((a0 + 1) + (2 * x0_2))), D.i (x0_1 + x1_0), D.i 32768, D.i 1]])) ≤ 4294967296
  g42 : ∀ x0_0 x0_1 x0_2 x0_3 x0_4 x0_5, I0 x0_0 x0_1 x0_2 x0_3 x0_4 x0_5 → ∀ x1_0 x1_1 x1_2 x1_3, I1 x0_0 x0_1 x0_2 x0_3 x0_4 x0_5 x1_0 x1_1 x1_2 x1_3 → ∀ x2_0 x2_1 x2_2 x2_3, I2 x0_0 x0_1 x0_2 x0_3 x0_4 x0_5 x1_0 x1_1 x1_2 x1_3 x2_0 x2_1 x2_2 x2_3 → ((D.int (fn 82 [[D.i a0], [D.l a1], [D.i a2]] 0 0)) = 0) → (x0_2 < (a1.length : Int)) → (x1_0 < ((D.rows (gt a1 x0_2.toNat 0)).length : Int)) → (¬ x2_0 < (((D.rows (gt (D.rows (gt a1 x0_2.toNat 0)) x1_0.toNat 0)).length : Int))) → ((List.length ((x2_3 ++ [[D.i ((-1) - a0), D.i (x0_1 + x1_0), D.i (-32768), D.i 1]]) ++ [[D.i ((-1) - ((a0 + 1) + (2 * x0_2))), D.i (x0_1 + x1_0), D.i 32768, D.i 1]])) + (List.length [[D.i ((-1) - ((a0 + 1) + (2 * x0_2))), D.i (x0_1 + x1_0), D.i (D.int (gt (D.rows (gt a1 x0_2.toNat 0)) x1_0.toNat 1)), D.i 1]])) * 32 ≤ 4294967296 ∧ ((List.length ((x2_3 ++ [[D.i ((-1) - a0), D.i (x0_1 + x1_0), D.i (-32768), D.i 1]]) ++ [[D.i ((-1) - ((a0 + 1) + (2 * x0_2))), D.i (x0_1 + x1_0), D.i 32768, D.i 1]])) + (List.length [[D.i ((-1) - ((a0 + 1) + (2 * x0_2))), D.i (x0_1 + x1_0), D.i (D.int (gt (D.rows (gt a1 x0_2.toNat 0)) x1_0.toNat 1)), D.i 1]])) ≤ 4294967296
  g43 : ∀ x0_0 x0_1 x0_2 x0_3 x0_4 x0_5, I0 x0_0 x0_1 x0_2 x0_3 x0_4 x0_5 → ∀ x1_0 x1_1 x1_2 x1_3, I1 x0_0 x0_1 x0_2 x0_3 x0_4 x0_5 x1_0 x1_1 x1_2 x1_3 → ∀ x2_0 x2_1 x2_2 x2_3, I2 x0_0 x0_1 x0_2 x0_3 x0_4 x0_5 x1_0 x1_1 x1_2 x1_3 x2_0 x2_1 x2_2 x2_3 → ((D.int (fn 82 [[D.i a0], [D.l a1], [D.i a2]] 0 0)) = 0) → (x0_2 < (a1.length : Int)) → (x1_0 < ((D.rows (gt a1 x0_2.toNat 0)).length : Int)) → (¬ x2_0 < (((D.rows (gt (D.rows (gt a1 x0_2.toNat 0)) x1_0.toNat 0)).length : Int))) → -9223372036854775808 ≤ (((-1) - ((a0 + 1) + (2 * x0_2))) - 1) ∧ (((-1) - ((a0 + 1) + (2 * x0_2))) - 1) ≤ 9223372036854775807
  g45 : ∀ x0_0 x0_1 x0_2 x0_3 x0_4 x0_5, I0 x0_0 x0_1 x0_2 x0_3 x0_4 x0_5 → ∀ x1_0 x1_1 x1_2 x1_3, I1 x0_0 x0_1 x0_2 x0_3 x0_4 x0_5 x1_0 x1_1 x1_2 x1_3 → ∀ x2_0 x2_1 x2_2 x2_3, I2 x0_0 x0_1 x0_2 x0_3 x0_4 x0_5 x1_0 x1_1 x1_2 x1_3 x2_0 x2_1 x2_2 x2_3 → ((D.int (fn 82 [[D.i a0], [D.l a1], [D.i a2]] 0 0)) = 0) → (x0_2 < (a1.length : Int)) → (x1_0 < ((D.rows (gt a1 x0_2.toNat 0)).length : Int)) → (¬ x2_0 < (((D.rows (gt (D.rows (gt a1 x0_2.toNat 0)) x1_0.toNat 0)).length : Int))) → ((List.length (((x2_3 ++ [[D.i ((-1) - a0), D.i (x0_1 + x1_0), D.i (-32768), D.i 1]]) ++ [[D.i ((-1) - ((a0 + 1) + (2 * x0_2))), D.i (x0_1 + x1_0), D.i 32768, D.i 1]]) ++ [[D.i ((-1) - ((a0 + 1) + (2 * x0_2))), D.i (x0_1 + x1_0), D.i (D.int (gt (D.rows (gt a1 x0_2.toNat 0)) x1_0.toNat 1)), D.i 1]])) + (List.length [[D.i (((-1) - ((a0 + 1) + (2 * x0_2))) - 1), D.i (x0_1 + x1_0), D.i (-32768), D.i 1]])) * 32 ≤ 4294967296 ∧ ((List.length (((x2_3 ++ [[D.i ((-1) - a0), D.i (x0_1 + x1_0), D.i (-32768), D.i 1]]) ++ [[D.i ((-1) - ((a0 + 1) + (2 * x0_2))), D.i (x0_1 + x1_0), D.i 32768, D.i 1]]) ++ [[D.i ((-1) - ((a0 + 1) + (2 * x0_2))), D.i (x0_1 + x1_0), D.i (D.int (gt (D.rows (gt a1 x0_2.toNat 0)) x1_0.toNat 1)), D.i 1]])) + (List.length [[D.i (((-1) - ((a0 + 1) + (2 * x0_2))) - 1), D.i (x0_1 + x1_0), D.i (-32768), D.i 1]])) ≤ 4294967296
  g46 : ∀ x0_0 x0_1 x0_2 x0_3 x0_4 x0_5, I0 x0_0 x0_1 x0_2 x0_3 x0_4 x0_5 → ∀ x1_0 x1_1 x1_2 x1_3, I1 x0_0 x0_1 x0_2 x0_3 x0_4 x0_5 x1_0 x1_1 x1_2 x1_3 → ∀ x2_0 x2_1 x2_2 x2_3, I2 x0_0 x0_1 x0_2 x0_3 x0_4 x0_5 x1_0 x1_1 x1_2 x1_3 x2_0 x2_1 x2_2 x2_3 → ((D.int (fn 82 [[D.i a0], [D.l a1], [D.i a2]] 0 0)) = 0) → (x0_2 < (a1.length : Int)) → (x1_0 < ((D.rows (gt a1 x0_2.toNat 0)).length : Int)) → (¬ x2_0 < (((D.rows (gt (D.rows (gt a1 x0_2.toNat 0)) x1_0.toNat 0)).length : Int))) → -9223372036854775808 ≤ (x1_0 + 1) ∧ (x1_0 + 1) ≤ 9223372036854775807
  n47 : ∀ x0_0 x0_1 x0_2 x0_3 x0_4 x0_5, I0 x0_0 x0_1 x0_2 x0_3 x0_4 x0_5 → ∀ x1_0 x1_1 x1_2 x1_3, I1 x0_0 x0_1 x0_2 x0_3 x0_4 x0_5 x1_0 x1_1 x1_2 x1_3 → ∀ x2_0 x2_1 x2_2 x2_3, I2 x0_0 x0_1 x0_2 x0_3 x0_4 x0_5 x1_0 x1_1 x1_2 x1_3 x2_0 x2_1 x2_2 x2_3 → ((D.int (fn 82 [[D.i a0], [D.l a1], [D.i a2]] 0 0)) = 0) → (x0_2 < (a1.length : Int)) → (x1_0 < ((D.rows (gt a1 x0_2.toNat 0)).length : Int)) → (¬ x2_0 < (((D.rows (gt (D.rows (gt a1 x0_2.toNat 0)) x1_0.toNat 0)).length : Int))) → I1 x0_0 x0_1 x0_2 x0_3 x0_4 x0_5 (x1_0 + 1) x2_1 x2_2 ((((x2_3 ++ [[D.i ((-1) - a0), D.i (x0_1 + x1_0), D.i (-32768), D.i 1]]) ++ [[D.i ((-1) - ((a0 + 1) + (2 * x0_2))), D.i (x0_1 + x1_0), D.i 32768, D.i 1]]) ++ [[D.i ((-1) - ((a0 + 1) + (2 * x0_2))), D.i (x0_1 + x1_0), D.i (D.int (gt (D.rows (gt a1 x0_2.toNat 0)) x1_0.toNat 1)), D.i 1]]) ++ [[D.i (((-1) - ((a0 + 1) + (2 * x0_2))) - 1), D.i (x0_1 + x1_0), D.i (-32768), D.i 1]]) ∧ m1 x0_0 x0_1 x0_2 x0_3 x0_4 x0_5 (x1_0 + 1) x2_1 x2_2 ((((x2_3 ++ [[D.i ((-1) - a0), D.i (x0_1 + x1_0), D.i (-32768), D.i 1]]) ++ [[D.i ((-1) - ((a0 + 1) + (2 * x0_2))), D.i (x0_1 + x1_0), D.i 32768, D.i 1]]) ++ [[D.i ((-1) - ((a0 + 1) + (2 * x0_2))), D.i (x0_1 + x1_0), D.i (D.int (gt (D.rows (gt a1 x0_2.toNat 0)) x1_0.toNat 1)), D.i 1]]) ++ [[D.i (((-1) - ((a0 + 1) + (2 * x0_2))) - 1), D.i (x0_1 + x1_0), D.i (-32768), D.i 1]]) < m1 x0_0 x0_1 x0_2 x0_3 x0_4 x0_5 x1_0 x1_1 x1_2 x1_3
  g48 : ∀ x0_0 x0_1 x0_2 x0_3 x0_4 x0_5, I0 x0_0 x0_1 x0_2 x0_3 x0_4 x0_5 → ∀ x1_0 x1_1 x1_2 x1_3, I1 x0_0 x0_1 x0_2 x0_3 x0_4 x0_5 x1_0 x1_1 x1_2 x1_3 → ((D.int (fn 82 [[D.i a0], [D.l a1], [D.i a2]] 0 0)) = 0) → (x0_2 < (a1.length : Int)) → (¬ x1_0 < ((D.rows (gt a1 x0_2.toNat 0)).length : Int)) → 0 ≤ x0_2
  g49 : ∀ x0_0 x0_1 x0_2 x0_3 x0_4 x0_5, I0 x0_0 x0_1 x0_2 x0_3 x0_4 x0_5 → ∀ x1_0 x1_1 x1_2 x1_3, I1 x0_0 x0_1 x0_2 x0_3 x0_4 x0_5 x1_0 x1_1 x1_2 x1_3 → ((D.int (fn 82 [[D.i a0], [D.l a1], [D.i a2]] 0 0)) = 0) → (x0_2 < (a1.length : Int)) → (¬ x1_0 < ((D.rows (gt a1 x0_2.toNat 0)).length : Int)) → x0_2 < (a1.length : Int)
  g50 : ∀ x0_0 x0_1 x0_2 x0_3 x0_4 x0_5, I0 x0_0 x0_1 x0_2 x0_3 x0_4 x0_5 → ∀ x1_0 x1_1 x1_2 x1_3, I1 x0_0 x0_1 x0_2 x0_3 x0_4 x0_5 x1_0 x1_1 x1_2 x1_3 → ((D.int (fn 82 [[D.i a0], [D.l a1], [D.i a2]] 0 0)) = 0) → (x0_2 < (a1.length : Int)) → (¬ x1_0 < ((D.rows (gt a1 x0_2.toNat 0)).length : Int)) → -9223372036854775808 ≤ (x0_1 + ((D.rows (gt a1 x0_2.toNat 0)).length : Int)) ∧ (x0_1 + ((D.rows (gt a1 x0_2.toNat 0)).length : Int)) ≤ 9223372036854775807
  g51 : ∀ x0_0 x0_1 x0_2 x0_3 x0_4 x0_5, I0 x0_0 x0_1 x0_2 x0_3 x0_4 x0_5 → ∀ x1_0 x1_1 x1_2 x1_3, I1 x0_0 x0_1 x0_2 x0_3 x0_4 x0_5 x1_0 x1_1 x1_2 x1_3 → ((D.int (fn 82 [[D.i a0], [D.l a1], [D.i a2]] 0 0)) = 0) → (x0_2 < (a1.length : Int)) → (¬ x1_0 < ((D.rows (gt a1 x0_2.toNat 0)).length : Int)) → -9223372036854775808 ≤ (x0_2 + 1) ∧ (x0_2 + 1) ≤ 9223372036854775807
  n52 : ∀ x0_0 x0_1 x0_2 x0_3 x0_4 x0_5, I0 x0_0 x0_1 x0_2 x0_3 x0_4 x0_5 → ∀ x1_0 x1_1 x1_2 x1_3, I1 x0_0 x0_1 x0_2 x0_3 x0_4 x0_5 x1_0 x1_1 x1_2 x1_3 → ((D.int (fn 82 [[D.i a0], [D.l a1], [D.i a2]] 0 0)) = 0) → (x0_2 < (a1.length : Int)) → (¬ x1_0 < ((D.rows (gt a1 x0_2.toNat 0)).length : Int)) → I0 x0_1 (x0_1 + ((D.rows (gt a1 x0_2.toNat 0)).length : Int)) (x0_2 + 1) x1_1 x1_2 x1_3 ∧ m0 x0_1 (x0_1 + ((D.rows (gt a1 x0_2.toNat 0)).length : Int)) (x0_2 + 1) x1_1 x1_2 x1_3 < m0 x0_0 x0_1 x0_2 x0_3 x0_4 x0_5
  g53 : ∀ x0_0 x0_1 x0_2 x0_3 x0_4 x0_5, I0 x0_0 x0_1 x0_2 x0_3 x0_4 x0_5 → ((D.int (fn 82 [[D.i a0], [D.l a1], [D.i a2]] 0 0)) = 0) → (¬ x0_2 < (a1.length : Int)) → R 0 0 = D.l x0_3
  g54 : ∀ x0_0 x0_1 x0_2 x0_3 x0_4 x0_5, I0 x0_0 x0_1 x0_2 x0_3 x0_4 x0_5 → ((D.int (fn 82 [[D.i a0], [D.l a1], [D.i a2]] 0 0)) = 0) → (¬ x0_2 < (a1.length : Int)) → R 0 1 = D.i x0_4
  g55 : ∀ x0_0 x0_1 x0_2 x0_3 x0_4 x0_5, I0 x0_0 x0_1 x0_2 x0_3 x0_4 x0_5 → ((D.int (fn 82 [[D.i a0], [D.l a1], [D.i a2]] 0 0)) = 0) → (¬ x0_2 < (a1.length : Int)) → R 0 2 = D.l x0_5
  g56 : ∀ x0_0 x0_1 x0_2 x0_3 x0_4 x0_5, I0 x0_0 x0_1 x0_2 x0_3 x0_4 x0_5 → ((D.int (fn 82 [[D.i a0], [D.l a1], [D.i a2]] 0 0)) = 0) → (¬ x0_2 < (a1.length : Int)) → R 1 0 = D.i 0
end HX

namespace HX
open Go Go.Proofs CX
structure V37 (pre : Nat → List (List D) → Prop) (fn : Nat → List (List D) → Nat → Nat → D) (a0 : Rows) (a1 : Int) (a2 : Rows) (R : Nat → Nat → D) (I0 : Rows → Int → Prop) (m0 : Rows → Int → Nat) (I1 : Rows → Int → Rows → Int → Prop) (m1 : Rows → Int → Rows → Int → Nat) : Prop where
  g0 : pre 78 [[D.i (a2.length : Int)], [D.l a0], [D.i a1]]
  g1 : (¬ (D.int (fn 78 [[D.i (a2.length : Int)], [D.l a0], [D.i a1]] 0 0)) = 0) → R 0 0 = D.l []
  g2 : (¬ (D.int (fn 78 [[D.i (a2.length : Int)], [D.l a0], [D.i a1]] 0 0)) = 0) → R 1 0 = D.i (D.int (fn 78 [[D.i (a2.length : Int)], [D.l a0], [D.i a1]] 0 0))
  g3 : ((D.int (fn 78 [[D.i (a2.length : Int)], [D.l a0], [D.i a1]] 0 0)) = 0) → pre 79 [[D.l a2], [D.i a1]]
  g4 : ((D.int (fn 78 [[D.i (a2.length : Int)], [D.l a0], [D.i a1]] 0 0)) = 0) → (D.boo (fn 79 [[D.l a2], [D.i a1]] 0 0) = false) → R 0 0 = D.l []
  g5 : ((D.int (fn 78 [[D.i (a2.length : Int)], [D.l a0], [D.i a1]] 0 0)) = 0) → (D.boo (fn 79 [[D.l a2], [D.i a1]] 0 0) = false) → R 1 0 = D.i 3
  i0 : ((D.int (fn 78 [[D.i (a2.length : Int)], [D.l a0], [D.i a1]] 0 0)) = 0) → (D.boo (fn 79 [[D.l a2], [D.i a1]] 0 0) = true) → I0 a2 0
  g7 : ∀ x0_0 x0_1, I0 x0_0 x0_1 → ((D.int (fn 78 [[D.i (a2.length : Int)], [D.l a0], [D.i a1]] 0 0)) = 0) → (D.boo (fn 79 [[D.l a2], [D.i a1]] 0 0) = true) → (x0_1 < (a0.length : Int)) → 0 ≤ x0_1
  g8 : ∀ x0_0 x0_1, I0 x0_0 x0_1 → ((D.int (fn 78 [[D.i (a2.length : Int)], [D.l a0], [D.i a1]] 0 0)) = 0) → (D.boo (fn 79 [[D.l a2], [D.i a1]] 0 0) = true) → (x0_1 < (a0.length : Int)) → x0_1 < (a0.length : Int)
  i1 : ∀ x0_0 x0_1, I0 x0_0 x0_1 → ((D.int (fn 78 [[D.i (a2.length : Int)], [D.l a0], [D.i a1]] 0 0)) = 0) → (D.boo (fn 79 [[D.l a2], [D.i a1]] 0 0) = true) → (x0_1 < (a0.length : Int)) → I1 x0_0 x0_1 [] 0
  g10 : ∀ x0_0 x0_1, I0 x0_0 x0_1 → ∀ x1_0 x1_1, I1 x0_0 x0_1 x1_0 x1_1 → ((D.int (fn 78 [[D.i (a2.length : Int)], [D.l a0], [D.i a1]] 0 0)) = 0) → (D.boo (fn 79 [[D.l a2], [D.i a1]] 0 0) = true) → (x0_1 < (a0.length : Int)) → (x1_1 < ((D.rows (gt a0 x0_1.toNat 0)).length : Int)) → 0 ≤ x1_1
  g11 : ∀ x0_0 x0_1, I0 x0_0 x0_1 → ∀ x1_0 x1_1, I1 x0_0 x0_1 x1_0 x1_1 → ((D.int (fn 78 [[D.i (a2.length : Int)], [D.l a0], [D.i a1]] 0 0)) = 0) → (D.boo (fn 79 [[D.l a2], [D.i a1]] 0 0) = true) → (x0_1 < (a0.length : Int)) → (x1_1 < ((D.rows (gt a0 x0_1.toNat 0)).length : Int)) → x1_1 < ((D.rows (gt a0 x0_1.toNat 0)).length : Int)
  g12 : ∀ x0_0 x0_1, I0 x0_0 x0_1 → ∀ x1_0 x1_1, I1 x0_0 x0_1 x1_0 x1_1 → ((D.int (fn 78 [[D.i (a2.length : Int)], [D.l a0], [D.i a1]] 0 0)) = 0) → (D.boo (fn 79 [[D.l a2], [D.i a1]] 0 0) = true) → (x0_1 < (a0.length : Int)) → (x1_1 < ((D.rows (gt a0 x0_1.toNat 0)).length : Int)) → pre 80 [[D.l (D.rows (gt (D.rows (gt a0 x0_1.toNat 0)) x1_1.toNat 0))], [D.l x0_0], [D.nil]]
  g13 : ∀ x0_0 x0_1, I0 x0_0 x0_1 → ∀ x1_0 x1_1, I1 x0_0 x0_1 x1_0 x1_1 → ((D.int (fn 78 [[D.i (a2.length : Int)], [D.l a0], [D.i a1]] 0 0)) = 0) → (D.boo (fn 79 [[D.l a2], [D.i a1]] 0 0) = true) → (x0_1 < (a0.length : Int)) → (x1_1 < ((D.rows (gt a0 x0_1.toNat 0)).length : Int)) → -9223372036854775808 ≤ ((D.int (gt (D.rows (gt a0 x0_1.toNat 0)) x1_1.toNat 1)) + (D.int (fn 80 [[D.l (D.rows (gt (D.rows (gt a0 x0_1.toNat 0)) x1_1.toNat 0))], [D.l x0_0], [D.nil]] 0 0))) ∧ ((D.int (gt (D.rows (gt a0 x0_1.toNat 0)) x1_1.toNat 1)) + (D.int (fn 80 [[D.l (D.rows (gt (D.rows (gt a0 x0_1.toNat 0)) x1_1.toNat 0))], [D.l x0_0], [D.nil]] 0 0))) ≤ 9223372036854775807
  g14 : ∀ x0_0 x0_1, I0 x0_0 x0_1 → ∀ x1_0 x1_1, I1 x0_0 x0_1 x1_0 x1_1 → ((D.int (fn 78 [[D.i (a2.length : Int)], [D.l a0], [D.i a1]] 0 0)) = 0) → (D.boo (fn 79 [[D.l a2], [D.i a1]] 0 0) = true) → (x0_1 < (a0.length : Int)) → (x1_1 < ((D.rows (gt a0 x0_1.toNat 0)).length : Int)) → (D.int (gt (D.rows (gt a0 x0_1.toNat 0)) x1_1.toNat 2)) ≠ 0
  g15 : ∀ x0_0 x0_1, I0 x0_0 x0_1 → ∀ x1_0 x1_1, I1 x0_0 x0_1 x1_0 x1_1 → ((D.int (fn 78 [[D.i (a2.length : Int)], [D.l a0], [D.i a1]] 0 0)) = 0) → (D.boo (fn 79 [[D.l a2], [D.i a1]] 0 0) = true) → (x0_1 < (a0.length : Int)) → (x1_1 < ((D.rows (gt a0 x0_1.toNat 0)).length : Int)) → -9223372036854775808 ≤ (Int.tdiv (mxI 0 ((D.int (gt (D.rows (gt a0 x0_1.toNat 0)) x1_1.toNat 1)) + (D.int (fn 80 [[D.l (D.rows (gt (D.rows (gt a0 x0_1.toNat 0)) x1_1.toNat 0))], [D.l x0_0], [D.nil]] 0 0)))) (D.int (gt (D.rows (gt a0 x0_1.toNat 0)) x1_1.toNat 2))) ∧ (Int.tdiv (mxI 0 ((D.int (gt (D.rows (gt a0 x0_1.toNat 0)) x1_1.toNat 1)) + (D.int (fn 80 [[D.l (D.rows (gt (D.rows (gt a0 x0_1.toNat 0)) x1_1.toNat 0))], [D.l x0_0], [D.nil]] 0 0)))) (D.int (gt (D.rows (gt a0 x0_1.toNat 0)) x1_1.toNat 2))) ≤ 9223372036854775807
  g16 : ∀ x0_0 x0_1, I0 x0_0 x0_1 → ∀ x1_0 x1_1, I1 x0_0 x0_1 x1_0 x1_1 → ((D.int (fn 78 [[D.i (a2.length : Int)], [D.l a0], [D.i a1]] 0 0)) = 0) → (D.boo (fn 79 [[D.l a2], [D.i a1]] 0 0) = true) → (x0_1 < (a0.length : Int)) → (x1_1 < ((D.rows (gt a0 x0_1.toNat 0)).length : Int)) → (x1_0.length + (List.length [[D.i (mnI a1 (Int.tdiv (mxI 0 ((D.int (gt (D.rows (gt a0 x0_1.toNat 0)) x1_1.toNat 1)) + (D.int (fn 80 [[D.l (D.rows (gt (D.rows (gt a0 x0_1.toNat 0)) x1_1.toNat 0))], [D.l x0_0], [D.nil]] 0 0)))) (D.int (gt (D.rows (gt a0 x0_1.toNat 0)) x1_1.toNat 2))))]])) * 8 ≤ 4294967296 ∧ (x1_0.length + (List.length [[D.i (mnI a1 (Int.tdiv (mxI 0 ((D.int (gt (D.rows (gt a0 x0_1.toNat 0)) x1_1.toNat 1)) + (D.int (fn 80 [[D.l (D.rows (gt (D.rows (gt a0 x0_1.toNat 0)) x1_1.toNat 0))], [D.l x0_0], [D.nil]] 0 0)))) (D.int (gt (D.rows (gt a0 x0_1.toNat 0)) x1_1.toNat 2))))]])) ≤ 4294967296
  g17 : ∀ x0_0 x0_1, I0 x0_0 x0_1 → ∀ x1_0 x1_1, I1 x0_0 x0_1 x1_0 x1_1 → ((D.int (fn 78 [[D.i (a2.length : Int)], [D.l a0], [D.i a1]] 0 0)) = 0) → (D.boo (fn 79 [[D.l a2], [D.i a1]] 0 0) = true) → (x0_1 < (a0.length : Int)) → (x1_1 < ((D.rows (gt a0 x0_1.toNat 0)).length : Int)) → -9223372036854775808 ≤ (x1_1 + 1) ∧ (x1_1 + 1) ≤ 9223372036854775807
  n18 : ∀ x0_0 x0_1, I0 x0_0 x0_1 → ∀ x1_0 x1_1, I1 x0_0 x0_1 x1_0 x1_1 → ((D.int (fn 78 [[D.i (a2.length : Int)], [D.l a0], [D.i a1]] 0 0)) = 0) → (D.boo (fn 79 [[D.l a2], [D.i a1]] 0 0) = true) → (x0_1 < (a0.length : Int)) → (x1_1 < ((D.rows (gt a0 x0_1.toNat 0)).length : Int)) → I1 x0_0 x0_1 (x1_0 ++ [[D.i (mnI a1 (Int.tdiv (mxI 0 ((D.int (gt (D.rows (gt a0 x0_1.toNat 0)) x1_1.toNat 1)) + (D.int (fn 80 [[D.l (D.rows (gt (D.rows (gt a0 x0_1.toNat 0)) x1_1.toNat 0))], [D.l x0_0], [D.nil]] 0 0)))) (D.int (gt (D.rows (gt a0 x0_1.toNat 0)) x1_1.toNat 2))))]]) (x1_1 + 1) ∧ m1 x0_0 x0_1 (x1_0 ++ [[D.i (mnI a1 (Int.tdiv (mxI 0 ((D.int (gt (D.rows (gt a0 x0_1.toNat 0)) x1_1.toNat 1)) + (D.int (fn 80 [[D.l (D.rows (gt (D.rows (gt a0 x0_1.toNat 0)) x1_1.toNat 0))], [D.l x0_0], [D.nil]] 0 0)))) (D.int (gt (D.rows (gt a0 x0_1.toNat 0)) x1_1.toNat 2))))]]) (x1_1 + 1) < m1 x0_0 x0_1 x1_0 x1_1
  g19 : ∀ x0_0 x0_1, I0 x0_0 x0_1 → ∀ x1_0 x1_1, I1 x0_0 x0_1 x1_0 x1_1 → ((D.int (fn 78 [[D.i (a2.length : Int)], [D.l a0], [D.i a1]] 0 0)) = 0) → (D.boo (fn 79 [[D.l a2], [D.i a1]] 0 0) = true) → (x0_1 < (a0.length : Int)) → (¬ x1_1 < ((D.rows (gt a0 x0_1.toNat 0)).length : Int)) → -9223372036854775808 ≤ (x0_1 + 1) ∧ (x0_1 + 1) ≤ 9223372036854775807
  n20 : ∀ x0_0 x0_1, I0 x0_0 x0_1 → ∀ x1_0 x1_1, I1 x0_0 x0_1 x1_0 x1_1 → ((D.int (fn 78 [[D.i (a2.length : Int)], [D.l a0], [D.i a1]] 0 0)) = 0) → (D.boo (fn 79 [[D.l a2], [D.i a1]] 0 0) = true) → (x0_1 < (a0.length : Int)) → (¬ x1_1 < ((D.rows (gt a0 x0_1.toNat 0)).length : Int)) → I0 x1_0 (x0_1 + 1) ∧ m0 x1_0 (x0_1 + 1) < m0 x0_0 x0_1
  g21 : ∀ x0_0 x0_1, I0 x0_0 x0_1 → ((D.int (fn 78 [[D.i (a2.length : Int)], [D.l a0], [D.i a1]] 0 0)) = 0) → (D.boo (fn 79 [[D.l a2], [D.i a1]] 0 0) = true) → (¬ x0_1 < (a0.length : Int)) → R 0 0 = D.l x0_0
  g22 : ∀ x0_0 x0_1, I0 x0_0 x0_1 → ((D.int (fn 78 [[D.i (a2.length : Int)], [D.l a0], [D.i a1]] 0 0)) = 0) → (D.boo (fn 79 [[D.l a2], [D.i a1]] 0 0) = true) → (¬ x0_1 < (a0.length : Int)) → R 1 0 = D.i 0
end HX

namespace HX
open Go Go.Proofs CX
structure V38 (pre : Nat → List (List D) → Prop) (fn : Nat → List (List D) → Nat → Nat → D) (a0 : Rows) (a1 : Int) (a2 : Rows) (R : Nat → Nat → D) (I0 : Rows → Int → Int → Prop) (m0 : Rows → Int → Int → Nat) (I1 : Rows → Int → Int → Rows → Int → Prop) (m1 : Rows → Int → Int → Rows → Int → Nat) (I2 : Rows → Int → Int → Rows → Int → Rows → Int → Prop) (m2 : Rows → Int → Int → Rows → Int → Rows → Int → Nat) (I3 : Rows → Int → Int → Rows → Int → Rows → Int → Int → Int → Prop) (m3 : Rows → Int → Int → Rows → Int → Rows → Int → Int → Int → Nat) : Prop where
  g0 : pre 82 [[D.i (a2.length : Int)], [D.l a0], [D.i a1]]
  g1 : (¬ (D.int (fn 82 [[D.i (a2.length : Int)], [D.l a0], [D.i a1]] 0 0)) = 0) → R 0 0 = D.l []
  g2 : (¬ (D.int (fn 82 [[D.i (a2.length : Int)], [D.l a0], [D.i a1]] 0 0)) = 0) → R 1 0 = D.i (D.int (fn 82 [[D.i (a2.length : Int)], [D.l a0], [D.i a1]] 0 0))
  i0 : ((D.int (fn 82 [[D.i (a2.length : Int)], [D.l a0], [D.i a1]] 0 0)) = 0) → I0 [] 0 0
  g4 : ∀ x0_0 x0_1 x0_2, I0 x0_0 x0_1 x0_2 → ((D.int (fn 82 [[D.i (a2.length : Int)], [D.l a0], [D.i a1]] 0 0)) = 0) → (x0_2 < (a2.length : Int)) → 0 ≤ x0_2
  g5 : ∀ x0_0 x0_1 x0_2, I0 x0_0 x0_1 x0_2 → ((D.int (fn 82 [[D.i (a2.length : Int)], [D.l a0], [D.i a1]] 0 0)) = 0) → (x0_2 < (a2.length : Int)) → x0_2 < (a2.length : Int)
  g6 : ∀ x0_0 x0_1 x0_2, I0 x0_0 x0_1 x0_2 → ((D.int (fn 82 [[D.i (a2.length : Int)], [D.l a0], [D.i a1]] 0 0)) = 0) → (x0_2 < (a2.length : Int)) → (0 ≤ (D.int (gt a2 x0_2.toNat 0))) → (¬ (D.int (gt a2 x0_2.toNat 0)) ≤ a1) → R 0 0 = D.l []
  g7 : ∀ x0_0 x0_1 x0_2, I0 x0_0 x0_1 x0_2 → ((D.int (fn 82 [[D.i (a2.length : Int)], [D.l a0], [D.i a1]] 0 0)) = 0) → (x0_2 < (a2.length : Int)) → (0 ≤ (D.int (gt a2 x0_2.toNat 0))) → (¬ (D.int (gt a2 x0_2.toNat 0)) ≤ a1) → R 1 0 = D.i 3
  g8 : ∀ x0_0 x0_1 x0_2, I0 x0_0 x0_1 x0_2 → ((D.int (fn 82 [[D.i (a2.length : Int)], [D.l a0], [D.i a1]] 0 0)) = 0) → (x0_2 < (a2.length : Int)) → (0 ≤ (D.int (gt a2 x0_2.toNat 0))) → ((D.int (gt a2 x0_2.toNat 0)) ≤ a1) → -9223372036854775808 ≤ (x0_2 + 1) ∧ (x0_2 + 1) ≤ 9223372036854775807
  n9 : ∀ x0_0 x0_1 x0_2, I0 x0_0 x0_1 x0_2 → ((D.int (fn 82 [[D.i (a2.length : Int)], [D.l a0], [D.i a1]] 0 0)) = 0) → (x0_2 < (a2.length : Int)) → (0 ≤ (D.int (gt a2 x0_2.toNat 0))) → ((D.int (gt a2 x0_2.toNat 0)) ≤ a1) → I0 x0_0 x0_1 (x0_2 + 1) ∧ m0 x0_0 x0_1 (x0_2 + 1) < m0 x0_0 x0_1 x0_2
  g10 : ∀ x0_0 x0_1 x0_2, I0 x0_0 x0_1 x0_2 → ((D.int (fn 82 [[D.i (a2.length : Int)], [D.l a0], [D.i a1]] 0 0)) = 0) → (x0_2 < (a2.length : Int)) → (¬ 0 ≤ (D.int (gt a2 x0_2.toNat 0))) → R 0 0 = D.l []
  g11 : ∀ x0_0 x0_1 x0_2, I0 x0_0 x0_1 x0_2 → ((D.int (fn 82 [[D.i (a2.length : Int)], [D.l a0], [D.i a1]] 0 0)) = 0) → (x0_2 < (a2.length : Int)) → (¬ 0 ≤ (D.int (gt a2 x0_2.toNat 0))) → R 1 0 = D.i 3
  i1 : ∀ x0_0 x0_1 x0_2, I0 x0_0 x0_1 x0_2 → ((D.int (fn 82 [[D.i (a2.length : Int)], [D.l a0], [D.i a1]] 0 0)) = 0) → (¬ x0_2 < (a2.length : Int)) → I1 x0_0 x0_1 x0_2 a2 0
  i2 : ∀ x0_0 x0_1 x0_2, I0 x0_0 x0_1 x0_2 → ∀ x1_0 x1_1, I1 x0_0 x0_1 x0_2 x1_0 x1_1 → ((D.int (fn 82 [[D.i (a2.length : Int)], [D.l a0], [D.i a1]] 0 0)) = 0) → (¬ x0_2 < (a2.length : Int)) → (x1_1 < (a0.length : Int)) → I2 x0_0 x0_1 x0_2 x1_0 x1_1 [] 0
  g14 : ∀ x0_0 x0_1 x0_2, I0 x0_0 x0_1 x0_2 → ∀ x1_0 x1_1, I1 x0_0 x0_1 x0_2 x1_0 x1_1 → ∀ x2_0 x2_1, I2 x0_0 x0_1 x0_2 x1_0 x1_1 x2_0 x2_1 → ((D.int (fn 82 [[D.i (a2.length : Int)], [D.l a0], [D.i a1]] 0 0)) = 0) → (¬ x0_2 < (a2.length : Int)) → (x1_1 < (a0.length : Int)) → 0 ≤ x1_1
  g15 : ∀ x0_0 x0_1 x0_2, I0 x0_0 x0_1 x0_2 → ∀ x1_0 x1_1, I1 x0_0 x0_1 x0_2 x1_0 x1_1 → ∀ x2_0 x2_1, I2 x0_0 x0_1 x0_2 x1_0 x1_1 x2_0 x2_1 → ((D.int (fn 82 [[D.i (a2.length : Int)], [D.l a0], [D.i a1]] 0 0)) = 0) → (¬ x0_2 < (a2.length : Int)) → (x1_1 < (a0.length : Int)) → x1_1 < (a0.length : Int)
  g16 : ∀ x0_0 x0_1 x0_2, I0 x0_0 x0_1 x0_2 → ∀ x1_0 x1_1, I1 x0_0 x0_1 x0_2 x1_0 x1_1 → ∀ x2_0 x2_1, I2 x0_0 x0_1 x0_2 x1_0 x1_1 x2_0 x2_1 → ((D.int (fn 82 [[D.i (a2.length : Int)], [D.l a0], [D.i a1]] 0 0)) = 0) → (¬ x0_2 < (a2.length : Int)) → (x1_1 < (a0.length : Int)) → (x2_1 < ((D.rows (gt a0 x1_1.toNat 0)).length : Int)) → 0 ≤ x1_1
  g17 : ∀ x0_0 x0_1 x0_2, I0 x0_0 x0_1 x0_2 → ∀ x1_0 x1_1, I1 x0_0 x0_1 x0_2 x1_0 x1_1 → ∀ x2_0 x2_1, I2 x0_0 x0_1 x0_2 x1_0 x1_1 x2_0 x2_1 → ((D.int (fn 82 [[D.i (a2.length : Int)], [D.l a0], [D.i a1]] 0 0)) = 0) → (¬ x0_2 < (a2.length : Int)) → (x1_1 < (a0.length : Int)) → (x2_1 < ((D.rows (gt a0 x1_1.toNat 0)).length : Int)) → x1_1 < (a0.length : Int)
  g18 : ∀ x0_0 x0_1 x0_2, I0 x0_0 x0_1 x0_2 → ∀ x1_0 x1_1, I1 x0_0 x0_1 x0_2 x1_0 x1_1 → ∀ x2_0 x2_1, I2 x0_0 x0_1 x0_2 x1_0 x1_1 x2_0 x2_1 → ((D.int (fn 82 [[D.i (a2.length : Int)], [D.l a0], [D.i a1]] 0 0)) = 0) → (¬ x0_2 < (a2.length : Int)) → (x1_1 < (a0.length : Int)) → (x2_1 < ((D.rows (gt a0 x1_1.toNat 0)).length : Int)) → 0 ≤ x2_1
  g19 : ∀ x0_0 x0_1 x0_2, I0 x0_0 x0_1 x0_2 → ∀ x1_0 x1_1, I1 x0_0 x0_1 x0_2 x1_0 x1_1 → ∀ x2_0 x2_1, I2 x0_0 x0_1 x0_2 x1_0 x1_1 x2_0 x2_1 → ((D.int (fn 82 [[D.i (a2.length : Int)], [D.l a0], [D.i a1]] 0 0)) = 0) → (¬ x0_2 < (a2.length : Int)) → (x1_1 < (a0.length : Int)) → (x2_1 < ((D.rows (gt a0 x1_1.toNat 0)).length : Int)) → x2_1 < ((D.rows (gt a0 x1_1.toNat 0)).length : Int)
  i3 : ∀ x0_0 x0_1 x0_2, I0 x0_0 x0_1 x0_2 → ∀ x1_0 x1_1, I1 x0_0 x0_1 x0_2 x1_0 x1_1 → ∀ x2_0 x2_1, I2 x0_0 x0_1 x0_2 x1_0 x1_1 x2_0 x2_1 → ((D.int (fn 82 [[D.i (a2.length : Int)], [D.l a0], [D.i a1]] 0 0)) = 0) → (¬ x0_2 < (a2.length : Int)) → (x1_1 < (a0.length : Int)) → (x2_1 < ((D.rows (gt a0 x1_1.toNat 0)).length : Int)) → I3 x0_0 x0_1 x0_2 x1_0 x1_1 x2_0 x2_1 (D.int (gt (D.rows (gt a0 x1_1.toNat 0)) x2_1.toNat 1)) 0
  g21 : ∀ x0_0 x0_1 x0_2, I0 x0_0 x0_1 x0_2 → ∀ x1_0 x1_1, I1 x0_0 x0_1 x0_2 x1_0 x1_1 → ∀ x2_0 x2_1, I2 x0_0 x0_1 x0_2 x1_0 x1_1 x2_0 x2_1 → ∀ x3_0 x3_1, I3 x0_0 x0_1 x0_2 x1_0 x1_1 x2_0 x2_1 x3_0 x3_1 → ((D.int (fn 82 [[D.i (a2.length : Int)], [D.l a0], [D.i a1]] 0 0)) = 0) → (¬ x0_2 < (a2.length : Int)) → (x1_1 < (a0.length : Int)) → (x2_1 < ((D.rows (gt a0 x1_1.toNat 0)).length : Int)) → (x3_1 < (x1_0.length : Int)) → 0 ≤ x1_1
  g22 : ∀ x0_0 x0_1 x0_2, I0 x0_0 x0_1 x0_2 → ∀ x1_0 x1_1, I1 x0_0 x0_1 x0_2 x1_0 x1_1 → ∀ x2_0 x2_1, I2 x0_0 x0_1 x0_2 x1_0 x1_1 x2_0 x2_1 → ∀ x3_0 x3_1, I3 x0_0 x0_1 x0_2 x1_0 x1_1 x2_0 x2_1 x3_0 x3_1 → ((D.int (fn 82 [[D.i (a2.length : Int)], [D.l a0], [D.i a1]] 0 0)) = 0) → (¬ x0_2 < (a2.length : Int)) → (x1_1 < (a0.length : Int)) → (x2_1 < ((D.rows (gt a0 x1_1.toNat 0)).length : Int)) → (x3_1 < (x1_0.length : Int)) → x1_1 < (a0.length : Int)
  g23 : ∀ x0_0 x0_1 x0_2, I0 x0_0 x0_1 x0_2 → ∀ x1_0 x1_1, I1 x0_0 x0_1 x0_2 x1_0 x1_1 → ∀ x2_0 x2_1, I2 x0_0 x0_1 x0_2 x1_0 x1_1 x2_0 x2_1 → ∀ x3_0 x3_1, I3 x0_0 x0_1 x0_2 x1_0 x1_1 x2_0 x2_1 x3_0 x3_1 → ((D.int (fn 82 [[D.i (a2.length : Int)], [D.l a0], [D.i a1]] 0 0)) = 0) → (¬ x0_2 < (a2.length : Int)) → (x1_1 < (a0.length : Int)) → (x2_1 < ((D.rows (gt a0 x1_1.toNat 0)).length : Int)) → (x3_1 < (x1_0.length : Int)) → 0 ≤ x2_1
  g24 : ∀ x0_0 x0_1 x0_2, I0 x0_0 x0_1 x0_2 → ∀ x1_0 x1_1, I1 x0_0 x0_1 x0_2 x1_0 x1_1 → ∀ x2_0 x2_1, I2 x0_0 x0_1 x0_2 x1_0 x1_1 x2_0 x2_1 → ∀ x3_0 x3_1, I3 x0_0 x0_1 x0_2 x1_0 x1_1 x2_0 x2_1 x3_0 x3_1 → ((D.int (fn 82 [[D.i (a2.length : Int)], [D.l a0], [D.i a1]] 0 0)) = 0) → (¬ x0_2 < (a2.length : Int)) → (x1_1 < (a0.length : Int)) → (x2_1 < ((D.rows (gt a0 x1_1.toNat 0)).length : Int)) → (x3_1 < (x1_0.length : Int)) → x2_1 < ((D.rows (gt a0 x1_1.toNat 0)).length : Int)
  g25 : ∀ x0_0 x0_1 x0_2, I0 x0_0 x0_1 x0_2 → ∀ x1_0 x1_1, I1 x0_0 x0_1 x0_2 x1_0 x1_1 → ∀ x2_0 x2_1, I2 x0_0 x0_1 x0_2 x1_0 x1_1 x2_0 x2_1 → ∀ x3_0 x3_1, I3 x0_0 x0_1 x0_2 x1_0 x1_1 x2_0 x2_1 x3_0 x3_1 → ((D.int (fn 82 [[D.i (a2.length : Int)], [D.l a0], [D.i a1]] 0 0)) = 0) → (¬ x0_2 < (a2.length : Int)) → (x1_1 < (a0.length : Int)) → (x2_1 < ((D.rows (gt a0 x1_1.toNat 0)).length : Int)) → (x3_1 < (x1_0.length : Int)) → 0 ≤ x3_1
  g26 : ∀ x0_0 x0_1 x0_2, I0 x0_0 x0_1 x0_2 → ∀ x1_0 x1_1, I1 x0_0 x0_1 x0_2 x1_0 x1_1 → ∀ x2_0 x2_1, I2 x0_0 x0_1 x0_2 x1_0 x1_1 x2_0 x2_1 → ∀ x3_0 x3_1, I3 x0_0 x0_1 x0_2 x1_0 x1_1 x2_0 x2_1 x3_0 x3_1 → ((D.int (fn 82 [[D.i (a2.length : Int)], [D.l a0], [D.i a1]] 0 0)) = 0) → (¬ x0_2 < (a2.length : Int)) → (x1_1 < (a0.length : Int)) → (x2_1 < ((D.rows (gt a0 x1_1.toNat 0)).length : Int)) → (x3_1 < (x1_0.length : Int)) → x3_1 < (((D.rows (gt (D.rows (gt a0 x1_1.toNat 0)) x2_1.toNat 0)).length : Int))
  g28 : ∀ x0_0 x0_1 x0_2, I0 x0_0 x0_1 x0_2 → ∀ x1_0 x1_1, I1 x0_0 x0_1 x0_2 x1_0 x1_1 → ∀ x2_0 x2_1, I2 x0_0 x0_1 x0_2 x1_0 x1_1 x2_0 x2_1 → ∀ x3_0 x3_1, I3 x0_0 x0_1 x0_2 x1_0 x1_1 x2_0 x2_1 x3_0 x3_1 → ((D.int (fn 82 [[D.i (a2.length : Int)], [D.l a0], [D.i a1]] 0 0)) = 0) → (¬ x0_2 < (a2.length : Int)) → (x1_1 < (a0.length : Int)) → (x2_1 < ((D.rows (gt a0 x1_1.toNat 0)).length : Int)) → (x3_1 < (x1_0.length : Int)) → x3_1 < (x1_0.length : Int)
  g29 : ∀ x0_0 x0_1 x0_2, I0 x0_0 x0_1 x0_2 → ∀ x1_0 x1_1, I1 x0_0 x0_1 x0_2 x1_0 x1_1 → ∀ x2_0 x2_1, I2 x0_0 x0_1 x0_2 x1_0 x1_1 x2_0 x2_1 → ∀ x3_0 x3_1, I3 x0_0 x0_1 x0_2 x1_0 x1_1 x2_0 x2_1 x3_0 x3_1 → ((D.int (fn 82 [[D.i (a2.length : Int)], [D.l a0], [D.i a1]] 0 0)) = 0) → (¬ x0_2 < (a2.length : Int)) → (x1_1 < (a0.length : Int)) → (x2_1 < ((D.rows (gt a0 x1_1.toNat 0)).length : Int)) → (x3_1 < (x1_0.length : Int)) → -9223372036854775808 ≤ ((D.int (gt (D.rows (gt (D.rows (gt a0 x1_1.toNat 0)) x2_1.toNat 0)) x3_1.toNat 0)) * (D.int (gt x1_0 x3_1.toNat 0))) ∧ ((D.int (gt (D.rows (gt (D.rows (gt a0 x1_1.toNat 0)) x2_1.toNat 0)) x3_1.toNat 0)) * (D.int (gt x1_0 x3_1.toNat 0))) ≤ 9223372036854775807
  g30 : ∀ x0_0 x0_1 x0_2, I0 x0_0 x0_1 x0_2 → ∀ x1_0 x1_1, I1 x0_0 x0_1 x0_2 x1_0 x1_1 → ∀ x2_0 x2_1, I2 x0_0 x0_1 x0_2 x1_0 x1_1 x2_0 x2_1 → ∀ x3_0 x3_1, I3 x0_0 x0_1 x0_2 x1_0 x1_1 x2_0 x2_1 x3_0 x3_1 → ((D.int (fn 82 [[D.i (a2.length : Int)], [D.l a0], [D.i a1]] 0 0)) = 0) → (¬ x0_2 < (a2.length : Int)) → (x1_1 < (a0.length : Int)) → (x2_1 < ((D.rows (gt a0 x1_1.toNat 0)).length : Int)) → (x3_1 < (x1_0.length : Int)) → -9223372036854775808 ≤ (x3_0 + ((D.int (gt (D.rows (gt (D.rows (gt a0 x1_1.toNat 0)) x2_1.toNat 0)) x3_1.toNat 0)) * (D.int (gt x1_0 x3_1.toNat 0)))) ∧ (x3_0 + ((D.int (gt (D.rows (gt (D.rows (gt a0 x1_1.toNat 0)) x2_1.toNat 0)) x3_1.toNat 0)) * (D.int (gt x1_0 x3_1.toNat 0)))) ≤ 9223372036854775807
  g31 : ∀ x0_0 x0_1 x0_2, I0 x0_0 x0_1 x0_2 → ∀ x1_0 x1_1, I1 x0_0 x0_1 x0_2 x1_0 x1_1 → ∀ x2_0 x2_1, I2 x0_0 x0_1 x0_2 x1_0 x1_1 x2_0 x2_1 → ∀ x3_0 x3_1, I3 x0_0 x0_1 x0_2 x1_0 x1_1 x2_0 x2_1 x3_0 x3_1 → ((D.int (fn 82 [[D.i (a2.length : Int)], [D.l a0], [D.i a1]] 0 0)) = 0) → (¬ x0_2 < (a2.length : Int)) → (x1_1 < (a0.length : Int)) → (x2_1 < ((D.rows (gt a0 x1_1.toNat 0)).length : Int)) → (x3_1 < (x1_0.length : Int)) → -9223372036854775808 ≤ (x3_1 + 1) ∧ (x3_1 + 1) ≤ 9223372036854775807
  n32 : ∀ x0_0 x0_1 x0_2, I0 x0_0 x0_1 x0_2 → ∀ x1_0 x1_1, I1 x0_0 x0_1 x0_2 x1_0 x1_1 → ∀ x2_0 x2_1, I2 x0_0 x0_1 x0_2 x1_0 x1_1 x2_0 x2_1 → ∀ x3_0 x3_1, I3 x0_0 x0_1 x0_2 x1_0 x1_1 x2_0 x2_1 x3_0 x3_1 → ((D.int (fn 82 [[D.i (a2.length : Int)], [D.l a0], [D.i a1]] 0 0)) = 0) → (¬ x0_2 < (a2.length : Int)) → (x1_1 < (a0.length : Int)) → (x2_1 < ((D.rows (gt a0 x1_1.toNat 0)).length : Int)) → (x3_1 < (x1_0.length : Int)) → I3 x0_0 x0_1 x0_2 x1_0 x1_1 x2_0 x2_1 (x3_0 + ((D.int (gt (D.rows (gt (D.rows (gt a0 x1_1.toNat 0)) x2_1.toNat 0)) x3_1.toNat 0)) * (D.int (gt x1_0 x3_1.toNat 0)))) (x3_1 + 1) ∧ m3 x0_0 x0_1 x0_2 x1_0 x1_1 x2_0 x2_1 (x3_0 + ((D.int (gt (D.rows (gt (D.rows (gt a0 x1_1.toNat 0)) x2_1.toNat 0)) x3_1.toNat 0)) * (D.int (gt x1_0 x3_1.toNat 0)))) (x3_1 + 1) < m3 x0_0 x0_1 x0_2 x1_0 x1_1 x2_0 x2_1 x3_0 x3_1
  g33 : ∀ x0_0 x0_1 x0_2, I0 x0_0 x0_1 x0_2 → ∀ x1_0 x1_1, I1 x0_0 x0_1 x0_2 x1_0 x1_1 → ∀ x2_0 x2_1, I2 x0_0 x0_1 x0_2 x1_0 x1_1 x2_0 x2_1 → ∀ x3_0 x3_1, I3 x0_0 x0_1 x0_2 x1_0 x1_1 x2_0 x2_1 x3_0 x3_1 → ((D.int (fn 82 [[D.i (a2.length : Int)], [D.l a0], [D.i a1]] 0 0)) = 0) → (¬ x0_2 < (a2.length : Int)) → (x1_1 < (a0.length : Int)) → (x2_1 < ((D.rows (gt a0 x1_1.toNat 0)).length : Int)) → (¬ x3_1 < (x1_0.length : Int)) → 0 ≤ x1_1
  g34 : ∀ x0_0 x0_1 x0_2, I0 x0_0 x0_1 x0_2 → ∀ x1_0 x1_1, I1 x0_0 x0_1 x0_2 x1_0 x1_1 → ∀ x2_0 x2_1, I2 x0_0 x0_1 x0_2 x1_0 x1_1 x2_0 x2_1 → ∀ x3_0 x3_1, I3 x0_0 x0_1 x0_2 x1_0 x1_1 x2_0 x2_1 x3_0 x3_1 → ((D.int (fn 82 [[D.i (a2.length : Int)], [D.l a0], [D.i a1]] 0 0)) = 0) → (¬ x0_2 < (a2.length : Int)) → (x1_1 < (a0.length : Int)) → (x2_1 < ((D.rows (gt a0 x1_1.toNat 0)).length : Int)) → (¬ x3_1 < (x1_0.length : Int)) → x1_1 < (a0.length : Int)
  g35 : ∀ x0_0 x0_1 x0_2, I0 x0_0 x0_1 x0_2 → ∀ x1_0 x1_1, I1 x0_0 x0_1 x0_2 x1_0 x1_1 → ∀ x2_0 x2_1, I2 x0_0 x0_1 x0_2 x1_0 x1_1 x2_0 x2_1 → ∀ x3_0 x3_1, I3 x0_0 x0_1 x0_2 x1_0 x1_1 x2_0 x2_1 x3_0 x3_1 → ((D.int (fn 82 [[D.i (a2.length : Int)], [D.l a0], [D.i a1]] 0 0)) = 0) → (¬ x0_2 < (a2.length : Int)) → (x1_1 < (a0.length : Int)) → (x2_1 < ((D.rows (gt a0 x1_1.toNat 0)).length : Int)) → (¬ x3_1 < (x1_0.length : Int)) → 0 ≤ x2_1
  g36 : ∀ x0_0 x0_1 x0_2, I0 x0_0 x0_1 x0_2 → ∀ x1_0 x1_1, I1 x0_0 x0_1 x0_2 x1_0 x1_1 → ∀ x2_0 x2_1, I2 x0_0 x0_1 x0_2 x1_0 x1_1 x2_0 x2_1 → ∀ x3_0 x3_1, I3 x0_0 x0_1 x0_2 x1_0 x1_1 x2_0 x2_1 x3_0 x3_1 → ((D.int (fn 82 [[D.i (a2.length : Int)], [D.l a0], [D.i a1]] 0 0)) = 0) → (¬ x0_2 < (a2.length : Int)) → (x1_1 < (a0.length : Int)) → (x2_1 < ((D.rows (gt a0 x1_1.toNat 0)).length : Int)) → (¬ x3_1 < (x1_0.length : Int)) → x2_1 < ((D.rows (gt a0 x1_1.toNat 0)).length : Int)
  g37 : ∀ x0_0 x0_1 x0_2, I0 x0_0 x0_1 x0_2 → ∀ x1_0 x1_1, I1 x0_0 x0_1 x0_2 x1_0 x1_1 → ∀ x2_0 x2_1, I2 x0_0 x0_1 x0_2 x1_0 x1_1 x2_0 x2_1 → ∀ x3_0 x3_1, I3 x0_0 x0_1 x0_2 x1_0 x1_1 x2_0 x2_1 x3_0 x3_1 → ((D.int (fn 82 [[D.i (a2.length : Int)], [D.l a0], [D.i a1]] 0 0)) = 0) → (¬ x0_2 < (a2.length : Int)) → (x1_1 < (a0.length : Int)) → (x2_1 < ((D.rows (gt a0 x1_1.toNat 0)).length : Int)) → (¬ x3_1 < (x1_0.length : Int)) → (D.int (gt (D.rows (gt a0 x1_1.toNat 0)) x2_1.toNat 2)) ≠ 0
  g38 : ∀ x0_0 x0_1 x0_2, I0 x0_0 x0_1 x0_2 → ∀ x1_0 x1_1, I1 x0_0 x0_1 x0_2 x1_0 x1_1 → ∀ x2_0 x2_1, I2 x0_0 x0_1 x0_2 x1_0 x1_1 x2_0 x2_1 → ∀ x3_0 x3_1, I3 x0_0 x0_1 x0_2 x1_0 x1_1 x2_0 x2_1 x3_0 x3_1 → ((D.int (fn 82 [[D.i (a2.length : Int)], [D.l a0], [D.i a1]] 0 0)) = 0) → (¬ x0_2 < (a2.length : Int)) → (x1_1 < (a0.length : Int)) → (x2_1 < ((D.rows (gt a0 x1_1.toNat 0)).length : Int)) → (¬ x3_1 < (x1_0.length : Int)) → -9223372036854775808 ≤ (Int.tdiv (mxI x3_0 0) (D.int (gt (D.rows (gt a0 x1_1.toNat 0)) x2_1.toNat 2))) ∧ (Int.tdiv (mxI x3_0 0) (D.int (gt (D.rows (gt a0 x1_1.toNat 0)) x2_1.toNat 2))) ≤ 9223372036854775807
  g39 : ∀ x0_0 x0_1 x0_2, I0 x0_0 x0_1 x0_2 → ∀ x1_0 x1_1, I1 x0_0 x0_1 x0_2 x1_0 x1_1 → ∀ x2_0 x2_1, I2 x0_0 x0_1 x0_2 x1_0 x1_1 x2_0 x2_1 → ∀ x3_0 x3_1, I3 x0_0 x0_1 x0_2 x1_0 x1_1 x2_0 x2_1 x3_0 x3_1 → ((D.int (fn 82 [[D.i (a2.length : Int)], [D.l a0], [D.i a1]] 0 0)) = 0) → (¬ x0_2 < (a2.length : Int)) → (x1_1 < (a0.length : Int)) → (x2_1 < ((D.rows (gt a0 x1_1.toNat 0)).length : Int)) → (¬ x3_1 < (x1_0.length : Int)) → (x2_0.length + (List.length [[D.i (mnI (Int.tdiv (mxI x3_0 0) (D.int (gt (D.rows (gt a0 x1_1.toNat 0)) x2_1.toNat 2))) a1)]])) * 8 ≤ 4294967296 ∧ (x2_0.length + (List.length [[D.i (mnI (Int.tdiv (mxI x3_0 0) (D.int (gt (D.rows (gt a0 x1_1.toNat 0)) x2_1.toNat 2))) a1)]])) ≤ 4294967296
  g40 : ∀ x0_0 x0_1 x0_2, I0 x0_0 x0_1 x0_2 → ∀ x1_0 x1_1, I1 x0_0 x0_1 x0_2 x1_0 x1_1 → ∀ x2_0 x2_1, I2 x0_0 x0_1 x0_2 x1_0 x1_1 x2_0 x2_1 → ∀ x3_0 x3_1, I3 x0_0 x0_1 x0_2 x1_0 x1_1 x2_0 x2_1 x3_0 x3_1 → ((D.int (fn 82 [[D.i (a2.length : Int)], [D.l a0], [D.i a1]] 0 0)) = 0) → (¬ x0_2 < (a2.length : Int)) → (x1_1 < (a0.length : Int)) → (x2_1 < ((D.rows (gt a0 x1_1.toNat 0)).length : Int)) → (¬ x3_1 < (x1_0.length : Int)) → -9223372036854775808 ≤ (x2_1 + 1) ∧ (x2_1 + 1) ≤ 9223372036854775807
  n41 : ∀ x0_0 x0_1 x0_2, I0 x0_0 x0_1 x0_2 → ∀ x1_0 x1_1, I1 x0_0 x0_1 x0_2 x1_0 x1_1 → ∀ x2_0 x2_1, I2 x0_0 x0_1 x0_2 x1_0 x1_1 x2_0 x2_1 → ∀ x3_0 x3_1, I3 x0_0 x0_1 x0_2 x1_0 x1_1 x2_0 x2_1 x3_0 x3_1 → ((D.int (fn 82 [[D.i (a2.length : Int)], [D.l a0], [D.i a1]] 0 0)) = 0) → (¬ x0_2 < (a2.length : Int)) → (x1_1 < (a0.length : Int)) → (x2_1 < ((D.rows (gt a0 x1_1.toNat 0)).length : Int)) → (¬ x3_1 < (x1_0.length : Int)) → I2 x0_0 x0_1 x0_2 x1_0 x1_1 (x2_0 ++ [[D.i (mnI (Int.tdiv (mxI x3_0 0) (D.int (gt (D.rows (gt a0 x1_1.toNat 0)) x2_1.toNat 2))) a1)]]) (x2_1 + 1) ∧ m2 x0_0 x0_1 x0_2 x1_0 x1_1 (x2_0 ++ [[D.i (mnI (Int.tdiv (mxI x3_0 0) (D.int (gt (D.rows (gt a0 x1_1.toNat 0)) x2_1.toNat 2))) a1)]]) (x2_1 + 1) < m2 x0_0 x0_1 x0_2 x1_0 x1_1 x2_0 x2_1
  g42 : ∀ x0_0 x0_1 x0_2, I0 x0_0 x0_1 x0_2 → ∀ x1_0 x1_1, I1 x0_0 x0_1 x0_2 x1_0 x1_1 → ∀ x2_0 x2_1, I2 x0_0 x0_1 x0_2 x1_0 x1_1 x2_0 x2_1 → ((D.int (fn 82 [[D.i (a2.length : Int)], [D.l a0], [D.i a1]] 0 0)) = 0) → (¬ x0_2 < (a2.length : Int)) → (x1_1 < (a0.length : Int)) → (¬ x2_1 < ((D.rows (gt a0 x1_1.toNat 0)).length : Int)) → -9223372036854775808 ≤ (x1_1 + 1) ∧ (x1_1 + 1) ≤ 9223372036854775807
  n43 : ∀ x0_0 x0_1 x0_2, I0 x0_0 x0_1 x0_2 → ∀ x1_0 x1_1, I1 x0_0 x0_1 x0_2 x1_0 x1_1 → ∀ x2_0 x2_1, I2 x0_0 x0_1 x0_2 x1_0 x1_1 x2_0 x2_1 → ((D.int (fn 82 [[D.i (a2.length : Int)], [D.l a0], [D.i a1]] 0 0)) = 0) → (¬ x0_2 < (a2.length : Int)) → (x1_1 < (a0.length : Int)) → (¬ x2_1 < ((D.rows (gt a0 x1_1.toNat 0)).length : Int)) → I1 x0_0 x0_1 x0_2 x2_0 (x1_1 + 1) ∧ m1 x0_0 x0_1 x0_2 x2_0 (x1_1 + 1) < m1 x0_0 x0_1 x0_2 x1_0 x1_1
  g44 : ∀ x0_0 x0_1 x0_2, I0 x0_0 x0_1 x0_2 → ∀ x1_0 x1_1, I1 x0_0 x0_1 x0_2 x1_0 x1_1 → ((D.int (fn 82 [[D.i (a2.length : Int)], [D.l a0], [D.i a1]] 0 0)) = 0) → (¬ x0_2 < (a2.length : Int)) → (¬ x1_1 < (a0.length : Int)) → R 0 0 = D.l x1_0
  g45 : ∀ x0_0 x0_1 x0_2, I0 x0_0 x0_1 x0_2 → ∀ x1_0 x1_1, I1 x0_0 x0_1 x0_2 x1_0 x1_1 → ((D.int (fn 82 [[D.i (a2.length : Int)], [D.l a0], [D.i a1]] 0 0)) = 0) → (¬ x0_2 < (a2.length : Int)) → (¬ x1_1 < (a0.length : Int)) → R 1 0 = D.i 0
end HX

namespace HX
open Go Go.Proofs CX
structure V78 (pre : Nat → List (List D) → Prop) (fn : Nat → List (List D) → Nat → Nat → D) (a0 : Int) (a1 : Rows) (a2 : Int) (R : Nat → Nat → D) (I0 : Int → Int → Int → Prop) (m0 : Int → Int → Int → Nat) (I1 : Int → Int → Int → Int → Int → Prop) (m1 : Int → Int → Int → Int → Int → Nat) (I2 : Int → Int → Int → Int → Int → Int → Int → Int → Prop) (m2 : Int → Int → Int → Int → Int → Int → Int → Int → Nat) : Prop where
  g0 : pre 51 [[D.l [[D.i a0, D.i 1, D.i 30], [D.i a2, D.i 1, D.i 64]]]]
  g1 : (D.boo (fn 51 [[D.l [[D.i a0, D.i 1, D.i 30], [D.i a2, D.i 1, D.i 64]]]] 0 0) = false) → R 0 0 = D.i 3
  g2 : (D.boo (fn 51 [[D.l [[D.i a0, D.i 1, D.i 30], [D.i a2, D.i 1, D.i 64]]]] 0 0) = true) → pre 51 [[D.l [[D.i a0, D.i 1, D.i 30]]]]
  g3 : (D.boo (fn 51 [[D.l [[D.i a0, D.i 1, D.i 30], [D.i a2, D.i 1, D.i 64]]]] 0 0) = true) → (D.boo (fn 51 [[D.l [[D.i a0, D.i 1, D.i 30]]]] 0 0) = false) → R 0 0 = D.i 3
  g4 : (D.boo (fn 51 [[D.l [[D.i a0, D.i 1, D.i 30], [D.i a2, D.i 1, D.i 64]]]] 0 0) = true) → (D.boo (fn 51 [[D.l [[D.i a0, D.i 1, D.i 30]]]] 0 0) = true) → pre 51 [[D.l [[D.i (a1.length : Int), D.i 1, D.i 8]]]]
  g5 : (D.boo (fn 51 [[D.l [[D.i a0, D.i 1, D.i 30], [D.i a2, D.i 1, D.i 64]]]] 0 0) = true) → (D.boo (fn 51 [[D.l [[D.i a0, D.i 1, D.i 30]]]] 0 0) = true) → (D.boo (fn 51 [[D.l [[D.i (a1.length : Int), D.i 1, D.i 8]]]] 0 0) = false) → R 0 0 = D.i 9
  i0 : (D.boo (fn 51 [[D.l [[D.i a0, D.i 1, D.i 30], [D.i a2, D.i 1, D.i 64]]]] 0 0) = true) → (D.boo (fn 51 [[D.l [[D.i a0, D.i 1, D.i 30]]]] 0 0) = true) → (D.boo (fn 51 [[D.l [[D.i (a1.length : Int), D.i 1, D.i 8]]]] 0 0) = true) → I0 0 a0 0
  g7 : ∀ x0_0 x0_1 x0_2, I0 x0_0 x0_1 x0_2 → (D.boo (fn 51 [[D.l [[D.i a0, D.i 1, D.i 30], [D.i a2, D.i 1, D.i 64]]]] 0 0) = true) → (D.boo (fn 51 [[D.l [[D.i a0, D.i 1, D.i 30]]]] 0 0) = true) → (D.boo (fn 51 [[D.l [[D.i (a1.length : Int), D.i 1, D.i 8]]]] 0 0) = true) → (x0_2 < (a1.length : Int)) → 0 ≤ x0_2
  g8 : ∀ x0_0 x0_1 x0_2, I0 x0_0 x0_1 x0_2 → (D.boo (fn 51 [[D.l [[D.i a0, D.i 1, D.i 30], [D.i a2, D.i 1, D.i 64]]]] 0 0) = true) → (D.boo (fn 51 [[D.l [[D.i a0, D.i 1, D.i 30]]]] 0 0) = true) → (D.boo (fn 51 [[D.l [[D.i (a1.length : Int), D.i 1, D.i 8]]]] 0 0) = true) → (x0_2 < (a1.length : Int)) → x0_2 < (a1.length : Int)
  g9 : ∀ x0_0 x0_1 x0_2, I0 x0_0 x0_1 x0_2 → (D.boo (fn 51 [[D.l [[D.i a0, D.i 1, D.i 30], [D.i a2, D.i 1, D.i 64]]]] 0 0) = true) → (D.boo (fn 51 [[D.l [[D.i a0, D.i 1, D.i 30]]]] 0 0) = true) → (D.boo (fn 51 [[D.l [[D.i (a1.length : Int), D.i 1, D.i 8]]]] 0 0) = true) → (x0_2 < (a1.length : Int)) → pre 51 [[D.l [[D.i ((D.rows (gt a1 x0_2.toNat 0)).length : Int), D.i 1, D.i 30]]]]
  g10 : ∀ x0_0 x0_1 x0_2, I0 x0_0 x0_1 x0_2 → (D.boo (fn 51 [[D.l [[D.i a0, D.i 1, D.i 30], [D.i a2, D.i 1, D.i 64]]]] 0 0) = true) → (D.boo (fn 51 [[D.l [[D.i a0, D.i 1, D.i 30]]]] 0 0) = true) → (D.boo (fn 51 [[D.l [[D.i (a1.length : Int), D.i 1, D.i 8]]]] 0 0) = true) → (x0_2 < (a1.length : Int)) → (D.boo (fn 51 [[D.l [[D.i ((D.rows (gt a1 x0_2.toNat 0)).length : Int), D.i 1, D.i 30]]]] 0 0) = false) → R 0 0 = D.i 3
  i1 : ∀ x0_0 x0_1 x0_2, I0 x0_0 x0_1 x0_2 → (D.boo (fn 51 [[D.l [[D.i a0, D.i 1, D.i 30], [D.i a2, D.i 1, D.i 64]]]] 0 0) = true) → (D.boo (fn 51 [[D.l [[D.i a0, D.i 1, D.i 30]]]] 0 0) = true) → (D.boo (fn 51 [[D.l [[D.i (a1.length : Int), D.i 1, D.i 8]]]] 0 0) = true) → (x0_2 < (a1.length : Int)) → (D.boo (fn 51 [[D.l [[D.i ((D.rows (gt a1 x0_2.toNat 0)).length : Int), D.i 1, D.i 30]]]] 0 0) = true) → I1 x0_0 x0_1 x0_2 0 0
  g14 : ∀ x0_0 x0_1 x0_2, I0 x0_0 x0_1 x0_2 → ∀ x1_0 x1_1, I1 x0_0 x0_1 x0_2 x1_0 x1_1 → (D.boo (fn 51 [[D.l [[D.i a0, D.i 1, D.i 30], [D.i a2, D.i 1, D.i 64]]]] 0 0) = true) → (D.boo (fn 51 [[D.l [[D.i a0, D.i 1, D.i 30]]]] 0 0) = true) → (D.boo (fn 51 [[D.l [[D.i (a1.length : Int), D.i 1, D.i 8]]]] 0 0) = true) → (x0_2 < (a1.length : Int)) → (D.boo (fn 51 [[D.l [[D.i ((D.rows (gt a1 x0_2.toNat 0)).length : Int), D.i 1, D.i 30]]]] 0 0) = true) → (x1_1 < ((D.rows (gt a1 x0_2.toNat 0)).length : Int)) → 0 ≤ x1_1
  g15 : ∀ x0_0 x0_1 x0_2, I0 x0_0 x0_1 x0_2 → ∀ x1_0 x1_1, I1 x0_0 x0_1 x0_2 x1_0 x1_1 → (D.boo (fn 51 [[D.l [[D.i a0, D.i 1, D.i 30], [D.i a2, D.i 1, D.i 64]]]] 0 0) = true) → (D.boo (fn 51 [[D.l [[D.i a0, D.i 1, D.i 30]]]] 0 0) = true) → (D.boo (fn 51 [[D.l [[D.i (a1.length : Int), D.i 1, D.i 8]]]] 0 0) = true) → (x0_2 < (a1.length : Int)) → (D.boo (fn 51 [[D.l [[D.i ((D.rows (gt a1 x0_2.toNat 0)).length : Int), D.i 1, D.i 30]]]] 0 0) = true) → (x1_1 < ((D.rows (gt a1 x0_2.toNat 0)).length : Int)) → x1_1 < ((D.rows (gt a1 x0_2.toNat 0)).length : Int)
  g16 : ∀ x0_0 x0_1 x0_2, I0 x0_0 x0_1 x0_2 → ∀ x1_0 x1_1, I1 x0_0 x0_1 x0_2 x1_0 x1_1 → (D.boo (fn 51 [[D.l [[D.i a0, D.i 1, D.i 30], [D.i a2, D.i 1, D.i 64]]]] 0 0) = true) → (D.boo (fn 51 [[D.l [[D.i a0, D.i 1, D.i 30]]]] 0 0) = true) → (D.boo (fn 51 [[D.l [[D.i (a1.length : Int), D.i 1, D.i 8]]]] 0 0) = true) → (x0_2 < (a1.length : Int)) → (D.boo (fn 51 [[D.l [[D.i ((D.rows (gt a1 x0_2.toNat 0)).length : Int), D.i 1, D.i 30]]]] 0 0) = true) → (x1_1 < ((D.rows (gt a1 x0_2.toNat 0)).length : Int)) → (¬ (((D.rows (gt (D.rows (gt a1 x0_2.toNat 0)) x1_1.toNat 0)).length : Int)) = x0_1) → R 0 0 = D.i 13
  g19 : ∀ x0_0 x0_1 x0_2, I0 x0_0 x0_1 x0_2 → ∀ x1_0 x1_1, I1 x0_0 x0_1 x0_2 x1_0 x1_1 → (D.boo (fn 51 [[D.l [[D.i a0, D.i 1, D.i 30], [D.i a2, D.i 1, D.i 64]]]] 0 0) = true) → (D.boo (fn 51 [[D.l [[D.i a0, D.i 1, D.i 30]]]] 0 0) = true) → (D.boo (fn 51 [[D.l [[D.i (a1.length : Int), D.i 1, D.i 8]]]] 0 0) = true) → (x0_2 < (a1.length : Int)) → (D.boo (fn 51 [[D.l [[D.i ((D.rows (gt a1 x0_2.toNat 0)).length : Int), D.i 1, D.i 30]]]] 0 0) = true) → (x1_1 < ((D.rows (gt a1 x0_2.toNat 0)).length : Int)) → ((((D.rows (gt (D.rows (gt a1 x0_2.toNat 0)) x1_1.toNat 0)).length : Int)) = x0_1) → pre 51 [[D.l [[D.i (D.int (gt (D.rows (gt a1 x0_2.toNat 0)) x1_1.toNat 2)), D.i 1, D.i 32000]]]]
  g20 : ∀ x0_0 x0_1 x0_2, I0 x0_0 x0_1 x0_2 → ∀ x1_0 x1_1, I1 x0_0 x0_1 x0_2 x1_0 x1_1 → (D.boo (fn 51 [[D.l [[D.i a0, D.i 1, D.i 30], [D.i a2, D.i 1, D.i 64]]]] 0 0) = true) → (D.boo (fn 51 [[D.l [[D.i a0, D.i 1, D.i 30]]]] 0 0) = true) → (D.boo (fn 51 [[D.l [[D.i (a1.length : Int), D.i 1, D.i 8]]]] 0 0) = true) → (x0_2 < (a1.length : Int)) → (D.boo (fn 51 [[D.l [[D.i ((D.rows (gt a1 x0_2.toNat 0)).length : Int), D.i 1, D.i 30]]]] 0 0) = true) → (x1_1 < ((D.rows (gt a1 x0_2.toNat 0)).length : Int)) → ((((D.rows (gt (D.rows (gt a1 x0_2.toNat 0)) x1_1.toNat 0)).length : Int)) = x0_1) → (D.boo (fn 51 [[D.l [[D.i (D.int (gt (D.rows (gt a1 x0_2.toNat 0)) x1_1.toNat 2)), D.i 1, D.i 32000]]]] 0 0) = false) → R 0 0 = D.i 3
  g23 : ∀ x0_0 x0_1 x0_2, I0 x0_0 x0_1 x0_2 → ∀ x1_0 x1_1, I1 x0_0 x0_1 x0_2 x1_0 x1_1 → (D.boo (fn 51 [[D.l [[D.i a0, D.i 1, D.i 30], [D.i a2, D.i 1, D.i 64]]]] 0 0) = true) → (D.boo (fn 51 [[D.l [[D.i a0, D.i 1, D.i 30]]]] 0 0) = true) → (D.boo (fn 51 [[D.l [[D.i (a1.length : Int), D.i 1, D.i 8]]]] 0 0) = true) → (x0_2 < (a1.length : Int)) → (D.boo (fn 51 [[D.l [[D.i ((D.rows (gt a1 x0_2.toNat 0)).length : Int), D.i 1, D.i 30]]]] 0 0) = true) → (x1_1 < ((D.rows (gt a1 x0_2.toNat 0)).length : Int)) → ((((D.rows (gt (D.rows (gt a1 x0_2.toNat 0)) x1_1.toNat 0)).length : Int)) = x0_1) → (D.boo (fn 51 [[D.l [[D.i (D.int (gt (D.rows (gt a1 x0_2.toNat 0)) x1_1.toNat 2)), D.i 1, D.i 32000]]]] 0 0) = true) → pre 51 [[D.l [[D.i (D.int (gt (D.rows (gt a1 x0_2.toNat 0)) x1_1.toNat 1)), D.i (-32000), D.i 32000]]]]
  g24 : ∀ x0_0 x0_1 x0_2, I0 x0_0 x0_1 x0_2 → ∀ x1_0 x1_1, I1 x0_0 x0_1 x0_2 x1_0 x1_1 → (D.boo (fn 51 [[D.l [[D.i a0, D.i 1, D.i 30], [D.i a2, D.i 1, D.i 64]]]] 0 0) = true) → (D.boo (fn 51 [[D.l [[D.i a0, D.i 1, D.i 30]]]] 0 0) = true) → (D.boo (fn 51 [[D.l [[D.i (a1.length : Int), D.i 1, D.i 8]]]] 0 0) = true) → (x0_2 < (a1.length : Int)) → (D.boo (fn 51 [[D.l [[D.i ((D.rows (gt a1 x0_2.toNat 0)).length : Int), D.i 1, D.i 30]]]] 0 0) = true) → (x1_1 < ((D.rows (gt a1 x0_2.toNat 0)).length : Int)) → ((((D.rows (gt (D.rows (gt a1 x0_2.toNat 0)) x1_1.toNat 0)).length : Int)) = x0_1) → (D.boo (fn 51 [[D.l [[D.i (D.int (gt (D.rows (gt a1 x0_2.toNat 0)) x1_1.toNat 2)), D.i 1, D.i 32000]]]] 0 0) = true) → (D.boo (fn 51 [[D.l [[D.i (D.int (gt (D.rows (gt a1 x0_2.toNat 0)) x1_1.toNat 1)), D.i (-32000), D.i 32000]]]] 0 0) = false) → R 0 0 = D.i 14
  g27 : ∀ x0_0 x0_1 x0_2, I0 x0_0 x0_1 x0_2 → ∀ x1_0 x1_1, I1 x0_0 x0_1 x0_2 x1_0 x1_1 → (D.boo (fn 51 [[D.l [[D.i a0, D.i 1, D.i 30], [D.i a2, D.i 1, D.i 64]]]] 0 0) = true) → (D.boo (fn 51 [[D.l [[D.i a0, D.i 1, D.i 30]]]] 0 0) = true) → (D.boo (fn 51 [[D.l [[D.i (a1.length : Int), D.i 1, D.i 8]]]] 0 0) = true) → (x0_2 < (a1.length : Int)) → (D.boo (fn 51 [[D.l [[D.i ((D.rows (gt a1 x0_2.toNat 0)).length : Int), D.i 1, D.i 30]]]] 0 0) = true) → (x1_1 < ((D.rows (gt a1 x0_2.toNat 0)).length : Int)) → ((((D.rows (gt (D.rows (gt a1 x0_2.toNat 0)) x1_1.toNat 0)).length : Int)) = x0_1) → (D.boo (fn 51 [[D.l [[D.i (D.int (gt (D.rows (gt a1 x0_2.toNat 0)) x1_1.toNat 2)), D.i 1, D.i 32000]]]] 0 0) = true) → (D.boo (fn 51 [[D.l [[D.i (D.int (gt (D.rows (gt a1 x0_2.toNat 0)) x1_1.toNat 1)), D.i (-32000), D.i 32000]]]] 0 0) = true) → pre 138 [[D.i (D.int (gt (D.rows (gt a1 x0_2.toNat 0)) x1_1.toNat 1))]]
  i2 : ∀ x0_0 x0_1 x0_2, I0 x0_0 x0_1 x0_2 → ∀ x1_0 x1_1, I1 x0_0 x0_1 x0_2 x1_0 x1_1 → (D.boo (fn 51 [[D.l [[D.i a0, D.i 1, D.i 30], [D.i a2, D.i 1, D.i 64]]]] 0 0) = true) → (D.boo (fn 51 [[D.l [[D.i a0, D.i 1, D.i 30]]]] 0 0) = true) → (D.boo (fn 51 [[D.l [[D.i (a1.length : Int), D.i 1, D.i 8]]]] 0 0) = true) → (x0_2 < (a1.length : Int)) → (D.boo (fn 51 [[D.l [[D.i ((D.rows (gt a1 x0_2.toNat 0)).length : Int), D.i 1, D.i 30]]]] 0 0) = true) → (x1_1 < ((D.rows (gt a1 x0_2.toNat 0)).length : Int)) → ((((D.rows (gt (D.rows (gt a1 x0_2.toNat 0)) x1_1.toNat 0)).length : Int)) = x0_1) → (D.boo (fn 51 [[D.l [[D.i (D.int (gt (D.rows (gt a1 x0_2.toNat 0)) x1_1.toNat 2)), D.i 1, D.i 32000]]]] 0 0) = true) → (D.boo (fn 51 [[D.l [[D.i (D.int (gt (D.rows (gt a1 x0_2.toNat 0)) x1_1.toNat 1)), D.i (-32000), D.i 32000]]]] 0 0) = true) → I2 x0_0 x0_1 x0_2 x1_0 x1_1 x1_0 (D.int (fn 138 [[D.i (D.int (gt (D.rows (gt a1 x0_2.toNat 0)) x1_1.toNat 1))]] 0 0)) 0
  g29 : ∀ x0_0 x0_1 x0_2, I0 x0_0 x0_1 x0_2 → ∀ x1_0 x1_1, I1 x0_0 x0_1 x0_2 x1_0 x1_1 → ∀ x2_0 x2_1 x2_2, I2 x0_0 x0_1 x0_2 x1_0 x1_1 x2_0 x2_1 x2_2 → (D.boo (fn 51 [[D.l [[D.i a0, D.i 1, D.i 30], [D.i a2, D.i 1, D.i 64]]]] 0 0) = true) → (D.boo (fn 51 [[D.l [[D.i a0, D.i 1, D.i 30]]]] 0 0) = true) → (D.boo (fn 51 [[D.l [[D.i (a1.length : Int), D.i 1, D.i 8]]]] 0 0) = true) → (x0_2 < (a1.length : Int)) → (D.boo (fn 51 [[D.l [[D.i ((D.rows (gt a1 x0_2.toNat 0)).length : Int), D.i 1, D.i 30]]]] 0 0) = true) → (x1_1 < ((D.rows (gt a1 x0_2.toNat 0)).length : Int)) → ((((D.rows (gt (D.rows (gt a1 x0_2.toNat 0)) x1_1.toNat 0)).length : Int)) = x0_1) → (D.boo (fn 51 [[D.l [[D.i (D.int (gt (D.rows (gt a1 x0_2.toNat 0)) x1_1.toNat 2)), D.i 1, D.i 32000]]]] 0 0) = true) → (D.boo (fn 51 [[D.l [[D.i (D.int (gt (D.rows (gt a1 x0_2.toNat 0)) x1_1.toNat 1)), D.i (-32000), D.i 32000]]]] 0 0) = true) → (x2_2 < (((D.rows (gt (D.rows (gt a1 x0_2.toNat 0)) x1_1.toNat 0)).length : Int))) → 0 ≤ x2_2
  g30 : ∀ x0_0 x0_1 x0_2, I0 x0_0 x0_1 x0_2 → ∀ x1_0 x1_1, I1 x0_0 x0_1 x0_2 x1_0 x1_1 → ∀ x2_0 x2_1 x2_2, I2 x0_0 x0_1 x0_2 x1_0 x1_1 x2_0 x2_1 x2_2 → (D.boo (fn 51 [[D.l [[D.i a0, D.i 1, D.i 30], [D.i a2, D.i 1, D.i 64]]]] 0 0) = true) → (D.boo (fn 51 [[D.l [[D.i a0, D.i 1, D.i 30]]]] 0 0) = true) → (D.boo (fn 51 [[D.l [[D.i (a1.length : Int), D.i 1, D.i 8]]]] 0 0) = true) → (x0_2 < (a1.length : Int)) → (D.boo (fn 51 [[D.l [[D.i ((D.rows (gt a1 x0_2.toNat 0)).length : Int), D.i 1, D.i 30]]]] 0 0) = true) → (x1_1 < ((D.rows (gt a1 x0_2.toNat 0)).length : Int)) → ((((D.rows (gt (D.rows (gt a1 x0_2.toNat 0)) x1_1.toNat 0)).length : Int)) = x0_1) → (D.boo (fn 51 [[D.l [[D.i (D.int (gt (D.rows (gt a1 x0_2.toNat 0)) x1_1.toNat 2)), D.i 1, D.i 32000]]]] 0 0) = true) → (D.boo (fn 51 [[D.l [[D.i (D.int (gt (D.rows (gt a1 x0_2.toNat 0)) x1_1.toNat 1)), D.i (-32000), D.i 32000]]]] 0 0) = true) → (x2_2 < (((D.rows (gt (D.rows (gt a1 x0_2.toNat 0)) x1_1.toNat 0)).length : Int))) → x2_2 < (((D.rows (gt (D.rows (gt a1 x0_2.toNat 0)) x1_1.toNat 0)).length : Int))
  g31 : ∀ x0_0 x0_1 x0_2, I0 x0_0 x0_1 x0_2 → ∀ x1_0 x1_1, I1 x0_0 x0_1 x0_2 x1_0 x1_1 → ∀ x2_0 x2_1 x2_2, I2 x0_0 x0_1 x0_2 x1_0 x1_1 x2_0 x2_1 x2_2 → (D.boo (fn 51 [[D.l [[D.i a0, D.i 1, D.i 30], [D.i a2, D.i 1, D.i 64]]]] 0 0) = true) → (D.boo (fn 51 [[D.l [[D.i a0, D.i 1, D.i 30]]]] 0 0) = true) → (D.boo (fn 51 [[D.l [[D.i (a1.length : Int), D.i 1, D.i 8]]]] 0 0) = true) → (x0_2 < (a1.length : Int)) → (D.boo (fn 51 [[D.l [[D.i ((D.rows (gt a1 x0_2.toNat 0)).length : Int), D.i 1, D.i 30]]]] 0 0) = true) → (x1_1 < ((D.rows (gt a1 x0_2.toNat 0)).length : Int)) → ((((D.rows (gt (D.rows (gt a1 x0_2.toNat 0)) x1_1.toNat 0)).length : Int)) = x0_1) → (D.boo (fn 51 [[D.l [[D.i (D.int (gt (D.rows (gt a1 x0_2.toNat 0)) x1_1.toNat 2)), D.i 1, D.i 32000]]]] 0 0) = true) → (D.boo (fn 51 [[D.l [[D.i (D.int (gt (D.rows (gt a1 x0_2.toNat 0)) x1_1.toNat 1)), D.i (-32000), D.i 32000]]]] 0 0) = true) → (x2_2 < (((D.rows (gt (D.rows (gt a1 x0_2.toNat 0)) x1_1.toNat 0)).length : Int))) → pre 51 [[D.l [[D.i (D.int (gt (D.rows (gt (D.rows (gt a1 x0_2.toNat 0)) x1_1.toNat 0)) x2_2.toNat 0)), D.i (-32000), D.i 32000]]]]
  g32 : ∀ x0_0 x0_1 x0_2, I0 x0_0 x0_1 x0_2 → ∀ x1_0 x1_1, I1 x0_0 x0_1 x0_2 x1_0 x1_1 → ∀ x2_0 x2_1 x2_2, I2 x0_0 x0_1 x0_2 x1_0 x1_1 x2_0 x2_1 x2_2 → (D.boo (fn 51 [[D.l [[D.i a0, D.i 1, D.i 30], [D.i a2, D.i 1, D.i 64]]]] 0 0) = true) → (D.boo (fn 51 [[D.l [[D.i a0, D.i 1, D.i 30]]]] 0 0) = true) → (D.boo (fn 51 [[D.l [[D.i (a1.length : Int), D.i 1, D.i 8]]]] 0 0) = true) → (x0_2 < (a1.length : Int)) → (D.boo (fn 51 [[D.l [[D.i ((D.rows (gt a1 x0_2.toNat 0)).length : Int), D.i 1, D.i 30]]]] 0 0) = true) → (x1_1 < ((D.rows (gt a1 x0_2.toNat 0)).length : Int)) → ((((D.rows (gt (D.rows (gt a1 x0_2.toNat 0)) x1_1.toNat 0)).length : Int)) = x0_1) → (D.boo (fn 51 [[D.l [[D.i (D.int (gt (D.rows (gt a1 x0_2.toNat 0)) x1_1.toNat 2)), D.i 1, D.i 32000]]]] 0 0) = true) → (D.boo (fn 51 [[D.l [[D.i (D.int (gt (D.rows (gt a1 x0_2.toNat 0)) x1_1.toNat 1)), D.i (-32000), D.i 32000]]]] 0 0) = true) → (x2_2 < (((D.rows (gt (D.rows (gt a1 x0_2.toNat 0)) x1_1.toNat 0)).length : Int))) → (D.boo (fn 51 [[D.l [[D.i (D.int (gt (D.rows (gt (D.rows (gt a1 x0_2.toNat 0)) x1_1.toNat 0)) x2_2.toNat 0)), D.i (-32000), D.i 32000]]]] 0 0) = false) → R 0 0 = D.i 14
  g35 : ∀ x0_0 x0_1 x0_2, I0 x0_0 x0_1 x0_2 → ∀ x1_0 x1_1, I1 x0_0 x0_1 x0_2 x1_0 x1_1 → ∀ x2_0 x2_1 x2_2, I2 x0_0 x0_1 x0_2 x1_0 x1_1 x2_0 x2_1 x2_2 → (D.boo (fn 51 [[D.l [[D.i a0, D.i 1, D.i 30], [D.i a2, D.i 1, D.i 64]]]] 0 0) = true) → (D.boo (fn 51 [[D.l [[D.i a0, D.i 1, D.i 30]]]] 0 0) = true) → (D.boo (fn 51 [[D.l [[D.i (a1.length : Int), D.i 1, D.i 8]]]] 0 0) = true) → (x0_2 < (a1.length : Int)) → (D.boo (fn 51 [[D.l [[D.i ((D.rows (gt a1 x0_2.toNat 0)).length : Int), D.i 1, D.i 30]]]] 0 0) = true) → (x1_1 < ((D.rows (gt a1 x0_2.toNat 0)).length : Int)) → ((((D.rows (gt (D.rows (gt a1 x0_2.toNat 0)) x1_1.toNat 0)).length : Int)) = x0_1) → (D.boo (fn 51 [[D.l [[D.i (D.int (gt (D.rows (gt a1 x0_2.toNat 0)) x1_1.toNat 2)), D.i 1, D.i 32000]]]] 0 0) = true) → (D.boo (fn 51 [[D.l [[D.i (D.int (gt (D.rows (gt a1 x0_2.toNat 0)) x1_1.toNat 1)), D.i (-32000), D.i 32000]]]] 0 0) = true) → (x2_2 < (((D.rows (gt (D.rows (gt a1 x0_2.toNat 0)) x1_1.toNat 0)).length : Int))) → (D.boo (fn 51 [[D.l [[D.i (D.int (gt (D.rows (gt (D.rows (gt a1 x0_2.toNat 0)) x1_1.toNat 0)) x2_2.toNat 0)), D.i (-32000), D.i 32000]]]] 0 0) = true) → pre 138 [[D.i (D.int (gt (D.rows (gt (D.rows (gt a1 x0_2.toNat 0)) x1_1.toNat 0)) x2_2.toNat 0))]]
  g36 : ∀ x0_0 x0_1 x0_2, I0 x0_0 x0_1 x0_2 → ∀ x1_0 x1_1, I1 x0_0 x0_1 x0_2 x1_0 x1_1 → ∀ x2_0 x2_1 x2_2, I2 x0_0 x0_1 x0_2 x1_0 x1_1 x2_0 x2_1 x2_2 → (D.boo (fn 51 [[D.l [[D.i a0, D.i 1, D.i 30], [D.i a2, D.i 1, D.i 64]]]] 0 0) = true) → (D.boo (fn 51 [[D.l [[D.i a0, D.i 1, D.i 30]]]] 0 0) = true) → (D.boo (fn 51 [[D.l [[D.i (a1.length : Int), D.i 1, D.i 8]]]] 0 0) = true) → (x0_2 < (a1.length : Int)) → (D.boo (fn 51 [[D.l [[D.i ((D.rows (gt a1 x0_2.toNat 0)).length : Int), D.i 1, D.i 30]]]] 0 0) = true) → (x1_1 < ((D.rows (gt a1 x0_2.toNat 0)).length : Int)) → ((((D.rows (gt (D.rows (gt a1 x0_2.toNat 0)) x1_1.toNat 0)).length : Int)) = x0_1) → (D.boo (fn 51 [[D.l [[D.i (D.int (gt (D.rows (gt a1 x0_2.toNat 0)) x1_1.toNat 2)), D.i 1, D.i 32000]]]] 0 0) = true) → (D.boo (fn 51 [[D.l [[D.i (D.int (gt (D.rows (gt a1 x0_2.toNat 0)) x1_1.toNat 1)), D.i (-32000), D.i 32000]]]] 0 0) = true) → (x2_2 < (((D.rows (gt (D.rows (gt a1 x0_2.toNat 0)) x1_1.toNat 0)).length : Int))) → (D.boo (fn 51 [[D.l [[D.i (D.int (gt (D.rows (gt (D.rows (gt a1 x0_2.toNat 0)) x1_1.toNat 0)) x2_2.toNat 0)), D.i (-32000), D.i 32000]]]] 0 0) = true) → -9223372036854775808 ≤ (a2 * (D.int (fn 138 [[D.i (D.int (gt (D.rows (gt (D.rows (gt a1 x0_2.toNat 0)) x1_1.toNat 0)) x2_2.toNat 0))]] 0 0))) ∧ (a2 * (D.int (fn 138 [[D.i (D.int (gt (D.rows (gt (D.rows (gt a1 x0_2.toNat 0)) x1_1.toNat 0)) x2_2.toNat 0))]] 0 0))) ≤ 9223372036854775807
  g37 : ∀ x0_0 x0_1 x0_2, I0 x0_0 x0_1 x0_2 → ∀ x1_0 x1_1, I1 x0_0 x0_1 x0_2 x1_0 x1_1 → ∀ x2_0 x2_1 x2_2, I2 x0_0 x0_1 x0_2 x1_0 x1_1 x2_0 x2_1 x2_2 → (D.boo (fn 51 [[D.l [[D.i a0, D.i 1, D.i 30], [D.i a2, D.i 1, D.i 64]]]] 0 0) = true) → (D.boo (fn 51 [[D.l [[D.i a0, D.i 1, D.i 30]]]] 0 0) = true) → (D.boo (fn 51 [[D.l [[D.i (a1.length : Int), D.i 1, D.i 8]]]] 0 0) = true) → (x0_2 < (a1.length : Int)) → (D.boo (fn 51 [[D.l [[D.i ((D.rows (gt a1 x0_2.toNat 0)).length : Int), D.i 1, D.i 30]]]] 0 0) = true) → (x1_1 < ((D.rows (gt a1 x0_2.toNat 0)).length : Int)) → ((((D.rows (gt (D.rows (gt a1 x0_2.toNat 0)) x1_1.toNat 0)).length : Int)) = x0_1) → (D.boo (fn 51 [[D.l [[D.i (D.int (gt (D.rows (gt a1 x0_2.toNat 0)) x1_1.toNat 2)), D.i 1, D.i 32000]]]] 0 0) = true) → (D.boo (fn 51 [[D.l [[D.i (D.int (gt (D.rows (gt a1 x0_2.toNat 0)) x1_1.toNat 1)), D.i (-32000), D.i 32000]]]] 0 0) = true) → (x2_2 < (((D.rows (gt (D.rows (gt a1 x0_2.toNat 0)) x1_1.toNat 0)).length : Int))) → (D.boo (fn 51 [[D.l [[D.i (D.int (gt (D.rows (gt (D.rows (gt a1 x0_2.toNat 0)) x1_1.toNat 0)) x2_2.toNat 0)), D.i (-32000), D.i 32000]]]] 0 0) = true) → -9223372036854775808 ≤ (x2_1 + (a2 * (D.int (fn 138 [[D.i (D.int (gt (D.rows (gt (D.rows (gt a1 x0_2.toNat 0)) x1_1.toNat 0)) x2_2.toNat 0))]] 0 0)))) ∧ (x2_1 + (a2 * (D.int (fn 138 [[D.i (D.int (gt (D.rows (gt (D.rows (gt a1 x0_2.toNat 0)) x1_1.toNat 0)) x2_2.toNat 0))]] 0 0)))) ≤ 9223372036854775807
  g38 : ∀ x0_0 x0_1 x0_2, I0 x0_0 x0_1 x0_2 → ∀ x1_0 x1_1, I1 x0_0 x0_1 x0_2 x1_0 x1_1 → ∀ x2_0 x2_1 x2_2, I2 x0_0 x0_1 x0_2 x1_0 x1_1 x2_0 x2_1 x2_2 → (D.boo (fn 51 [[D.l [[D.i a0, D.i 1, D.i 30], [D.i a2, D.i 1, D.i 64]]]] 0 0) = true) → (D.boo (fn 51 [[D.l [[D.i a0, D.i 1, D.i 30]]]] 0 0) = true) → (D.boo (fn 51 [[D.l [[D.i (a1.length : Int), D.i 1, D.i 8]]]] 0 0) = true) → (x0_2 < (a1.length : Int)) → (D.boo (fn 51 [[D.l [[D.i ((D.rows (gt a1 x0_2.toNat 0)).length : Int), D.i 1, D.i 30]]]] 0 0) = true) → (x1_1 < ((D.rows (gt a1 x0_2.toNat 0)).length : Int)) → ((((D.rows (gt (D.rows (gt a1 x0_2.toNat 0)) x1_1.toNat 0)).length : Int)) = x0_1) → (D.boo (fn 51 [[D.l [[D.i (D.int (gt (D.rows (gt a1 x0_2.toNat 0)) x1_1.toNat 2)), D.i 1, D.i 32000]]]] 0 0) = true) → (D.boo (fn 51 [[D.l [[D.i (D.int (gt (D.rows (gt a1 x0_2.toNat 0)) x1_1.toNat 1)), D.i (-32000), D.i 32000]]]] 0 0) = true) → (x2_2 < (((D.rows (gt (D.rows (gt a1 x0_2.toNat 0)) x1_1.toNat 0)).length : Int))) → (D.boo (fn 51 [[D.l [[D.i (D.int (gt (D.rows (gt (D.rows (gt a1 x0_2.toNat 0)) x1_1.toNat 0)) x2_2.toNat 0)), D.i (-32000), D.i 32000]]]] 0 0) = true) → -9223372036854775808 ≤ (x2_2 + 1) ∧ (x2_2 + 1) ≤ 9223372036854775807
  n39 : ∀ x0_0 x0_1 x0_2, I0 x0_0 x0_1 x0_2 → ∀ x1_0 x1_1, I1 x0_0 x0_1 x0_2 x1_0 x1_1 → ∀ x2_0 x2_1 x2_2, I2 x0_0 x0_1 x0_2 x1_0 x1_1 x2_0 x2_1 x2_2 → (D.boo (fn 51 [[D.l [[D.i a0, D.i 1, D.i 30], [D.i a2, D.i 1, D.i 64]]]] 0 0) = true) → (D.boo (fn 51 [[D.l [[D.i a0, D.i 1, D.i 30]]]] 0 0) = true) → (D.boo (fn 51 [[D.l [[D.i (a1.length : Int), D.i 1, D.i 8]]]] 0 0) = true) → (x0_2 < (a1.length : Int)) → (D.boo (fn 51 [[D.l [[D.i ((D.rows (gt a1 x0_2.toNat 0)).length : Int), D.i 1, D.i 30]]]] 0 0) = true) → (x1_1 < ((D.rows (gt a1 x0_2.toNat 0)).length : Int)) → ((((D.rows (gt (D.rows (gt a1 x0_2.toNat 0)) x1_1.toNat 0)).length : Int)) = x0_1) → (D.boo (fn 51 [[D.l [[D.i (D.int (gt (D.rows (gt a1 x0_2.toNat 0)) x1_1.toNat 2)), D.i 1, D.i 32000]]]] 0 0) = true) → (D.boo (fn 51 [[D.l [[D.i (D.int (gt (D.rows (gt a1 x0_2.toNat 0)) x1_1.toNat 1)), D.i (-32000), D.i 32000]]]] 0 0) = true) → (x2_2 < (((D.rows (gt (D.rows (gt a1 x0_2.toNat 0)) x1_1.toNat 0)).length : Int))) → (D.boo (fn 51 [[D.l [[D.i (D.int (gt (D.rows (gt (D.rows (gt a1 x0_2.toNat 0)) x1_1.toNat 0)) x2_2.toNat 0)), D.i (-32000), D.i 32000]]]] 0 0) = true) → I2 x0_0 x0_1 x0_2 x1_0 x1_1 x2_0 (x2_1 + (a2 * (D.int (fn 138 [[D.i (D.int (gt (D.rows (gt (D.rows (gt a1 x0_2.toNat 0)) x1_1.toNat 0)) x2_2.toNat 0))]] 0 0)))) (x2_2 + 1) ∧ m2 x0_0 x0_1 x0_2 x1_0 x1_1 x2_0 (x2_1 + (a2 * (D.int (fn 138 [[D.i (D.int (gt (D.rows (gt (D.rows (gt a1 x0_2.toNat 0)) x1_1.toNat 0)) x2_2.toNat 0))]] 0 0)))) (x2_2 + 1) < m2 x0_0 x0_1 x0_2 x1_0 x1_1 x2_0 x2_1 x2_2
  g40 : ∀ x0_0 x0_1 x0_2, I0 x0_0 x0_1 x0_2 → ∀ x1_0 x1_1, I1 x0_0 x0_1 x0_2 x1_0 x1_1 → ∀ x2_0 x2_1 x2_2, I2 x0_0 x0_1 x0_2 x1_0 x1_1 x2_0 x2_1 x2_2 → (D.boo (fn 51 [[D.l [[D.i a0, D.i 1, D.i 30], [D.i a2, D.i 1, D.i 64]]]] 0 0) = true) → (D.boo (fn 51 [[D.l [[D.i a0, D.i 1, D.i 30]]]] 0 0) = true) → (D.boo (fn 51 [[D.l [[D.i (a1.length : Int), D.i 1, D.i 8]]]] 0 0) = true) → (x0_2 < (a1.length : Int)) → (D.boo (fn 51 [[D.l [[D.i ((D.rows (gt a1 x0_2.toNat 0)).length : Int), D.i 1, D.i 30]]]] 0 0) = true) → (x1_1 < ((D.rows (gt a1 x0_2.toNat 0)).length : Int)) → ((((D.rows (gt (D.rows (gt a1 x0_2.toNat 0)) x1_1.toNat 0)).length : Int)) = x0_1) → (D.boo (fn 51 [[D.l [[D.i (D.int (gt (D.rows (gt a1 x0_2.toNat 0)) x1_1.toNat 2)), D.i 1, D.i 32000]]]] 0 0) = true) → (D.boo (fn 51 [[D.l [[D.i (D.int (gt (D.rows (gt a1 x0_2.toNat 0)) x1_1.toNat 1)), D.i (-32000), D.i 32000]]]] 0 0) = true) → (¬ x2_2 < (((D.rows (gt (D.rows (gt a1 x0_2.toNat 0)) x1_1.toNat 0)).length : Int))) → (32000 < x2_1) → R 0 0 = D.i 14
  g43 : ∀ x0_0 x0_1 x0_2, I0 x0_0 x0_1 x0_2 → ∀ x1_0 x1_1, I1 x0_0 x0_1 x0_2 x1_0 x1_1 → ∀ x2_0 x2_1 x2_2, I2 x0_0 x0_1 x0_2 x1_0 x1_1 x2_0 x2_1 x2_2 → (D.boo (fn 51 [[D.l [[D.i a0, D.i 1, D.i 30], [D.i a2, D.i 1, D.i 64]]]] 0 0) = true) → (D.boo (fn 51 [[D.l [[D.i a0, D.i 1, D.i 30]]]] 0 0) = true) → (D.boo (fn 51 [[D.l [[D.i (a1.length : Int), D.i 1, D.i 8]]]] 0 0) = true) → (x0_2 < (a1.length : Int)) → (D.boo (fn 51 [[D.l [[D.i ((D.rows (gt a1 x0_2.toNat 0)).length : Int), D.i 1, D.i 30]]]] 0 0) = true) → (x1_1 < ((D.rows (gt a1 x0_2.toNat 0)).length : Int)) → ((((D.rows (gt (D.rows (gt a1 x0_2.toNat 0)) x1_1.toNat 0)).length : Int)) = x0_1) → (D.boo (fn 51 [[D.l [[D.i (D.int (gt (D.rows (gt a1 x0_2.toNat 0)) x1_1.toNat 2)), D.i 1, D.i 32000]]]] 0 0) = true) → (D.boo (fn 51 [[D.l [[D.i (D.int (gt (D.rows (gt a1 x0_2.toNat 0)) x1_1.toNat 1)), D.i (-32000), D.i 32000]]]] 0 0) = true) → (¬ x2_2 < (((D.rows (gt (D.rows (gt a1 x0_2.toNat 0)) x1_1.toNat 0)).length : Int))) → (¬ 32000 < x2_1) → -9223372036854775808 ≤ (x1_1 + 1) ∧ (x1_1 + 1) ≤ 9223372036854775807
  n44 : ∀ x0_0 x0_1 x0_2, I0 x0_0 x0_1 x0_2 → ∀ x1_0 x1_1, I1 x0_0 x0_1 x0_2 x1_0 x1_1 → ∀ x2_0 x2_1 x2_2, I2 x0_0 x0_1 x0_2 x1_0 x1_1 x2_0 x2_1 x2_2 → (D.boo (fn 51 [[D.l [[D.i a0, D.i 1, D.i 30], [D.i a2, D.i 1, D.i 64]]]] 0 0) = true) → (D.boo (fn 51 [[D.l [[D.i a0, D.i 1, D.i 30]]]] 0 0) = true) → (D.boo (fn 51 [[D.l [[D.i (a1.length : Int), D.i 1, D.i 8]]]] 0 0) = true) → (x0_2 < (a1.length : Int)) → (D.boo (fn 51 [[D.l [[D.i ((D.rows (gt a1 x0_2.toNat 0)).length : Int), D.i 1, D.i 30]]]] 0 0) = true) → (x1_1 < ((D.rows (gt a1 x0_2.toNat 0)).length : Int)) → ((((D.rows (gt (D.rows (gt a1 x0_2.toNat 0)) x1_1.toNat 0)).length : Int)) = x0_1) → (D.boo (fn 51 [[D.l [[D.i (D.int (gt (D.rows (gt a1 x0_2.toNat 0)) x1_1.toNat 2)), D.i 1, D.i 32000]]]] 0 0) = true) → (D.boo (fn 51 [[D.l [[D.i (D.int (gt (D.rows (gt a1 x0_2.toNat 0)) x1_1.toNat 1)), D.i (-32000), D.i 32000]]]] 0 0) = true) → (¬ x2_2 < (((D.rows (gt (D.rows (gt a1 x0_2.toNat 0)) x1_1.toNat 0)).length : Int))) → (¬ 32000 < x2_1) → I1 x0_0 x0_1 x0_2 x2_0 (x1_1 + 1) ∧ m1 x0_0 x0_1 x0_2 x2_0 (x1_1 + 1) < m1 x0_0 x0_1 x0_2 x1_0 x1_1
  g46 : ∀ x0_0 x0_1 x0_2, I0 x0_0 x0_1 x0_2 → ∀ x1_0 x1_1, I1 x0_0 x0_1 x0_2 x1_0 x1_1 → (D.boo (fn 51 [[D.l [[D.i a0, D.i 1, D.i 30], [D.i a2, D.i 1, D.i 64]]]] 0 0) = true) → (D.boo (fn 51 [[D.l [[D.i a0, D.i 1, D.i 30]]]] 0 0) = true) → (D.boo (fn 51 [[D.l [[D.i (a1.length : Int), D.i 1, D.i 8]]]] 0 0) = true) → (x0_2 < (a1.length : Int)) → (D.boo (fn 51 [[D.l [[D.i ((D.rows (gt a1 x0_2.toNat 0)).length : Int), D.i 1, D.i 30]]]] 0 0) = true) → (¬ x1_1 < ((D.rows (gt a1 x0_2.toNat 0)).length : Int)) → -9223372036854775808 ≤ (x0_2 + 1) ∧ (x0_2 + 1) ≤ 9223372036854775807
  n47 : ∀ x0_0 x0_1 x0_2, I0 x0_0 x0_1 x0_2 → ∀ x1_0 x1_1, I1 x0_0 x0_1 x0_2 x1_0 x1_1 → (D.boo (fn 51 [[D.l [[D.i a0, D.i 1, D.i 30], [D.i a2, D.i 1, D.i 64]]]] 0 0) = true) → (D.boo (fn 51 [[D.l [[D.i a0, D.i 1, D.i 30]]]] 0 0) = true) → (D.boo (fn 51 [[D.l [[D.i (a1.length : Int), D.i 1, D.i 8]]]] 0 0) = true) → (x0_2 < (a1.length : Int)) → (D.boo (fn 51 [[D.l [[D.i ((D.rows (gt a1 x0_2.toNat 0)).length : Int), D.i 1, D.i 30]]]] 0 0) = true) → (¬ x1_1 < ((D.rows (gt a1 x0_2.toNat 0)).length : Int)) → I0 x0_0 ((D.rows (gt a1 x0_2.toNat 0)).length : Int) (x0_2 + 1) ∧ m0 x0_0 ((D.rows (gt a1 x0_2.toNat 0)).length : Int) (x0_2 + 1) < m0 x0_0 x0_1 x0_2
  g48 : ∀ x0_0 x0_1 x0_2, I0 x0_0 x0_1 x0_2 → (D.boo (fn 51 [[D.l [[D.i a0, D.i 1, D.i 30], [D.i a2, D.i 1, D.i 64]]]] 0 0) = true) → (D.boo (fn 51 [[D.l [[D.i a0, D.i 1, D.i 30]]]] 0 0) = true) → (D.boo (fn 51 [[D.l [[D.i (a1.length : Int), D.i 1, D.i 8]]]] 0 0) = true) → (¬ x0_2 < (a1.length : Int)) → R 0 0 = D.i 0
end HX
