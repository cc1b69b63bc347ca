/-
  Texts of the executors: SxDefs, SxSem, SxOps, SxMem, SxMem2, SxMem3, SxMem4, SxMem5, SxQ, SxFr, SxCall.
-/
import Derived.OrdersIn
import Derived.CallsIn
import Derived.WalkKit
import Derived.Laws.StructEq
import Derived.ChangeKeysEq
import Derived.RangeFuncCalls
/-
  SX: a symbolic executor for the loaded Code, in plain definitions. This file: what it computes. No claim is made here.
-/
namespace SX
open Go

/-- Comparisons that 'cbv' decides on literals at once. -/
def beqN (a b : Nat) : Bool := decide (a = b)
def bltN (a b : Nat) : Bool := decide (a < b)
def bleN (a b : Nat) : Bool := decide (a ≤ b)
theorem beqN_eq {a b : Nat} (h : beqN a b = true) : a = b := of_decide_eq_true h
@[simp] theorem beqN_iff (a b : Nat) : (beqN a b = true) = (a = b) := by simp [beqN]
@[simp] theorem beqN_self (a : Nat) : beqN a a = true := by simp [beqN]
@[simp] theorem bltN_iff (a b : Nat) : (bltN a b = true) = (a < b) := by simp [bltN]
@[simp] theorem bleN_iff (a b : Nat) : (bleN a b = true) = (a ≤ b) := by simp [bleN]
@[simp] theorem beqN_not (a b : Nat) : (beqN a b = false) = (a ≠ b) := by simp [beqN]
@[simp] theorem bltN_not (a b : Nat) : (bltN a b = false) = (¬ a < b) := by simp [bltN]
@[simp] theorem bleN_not (a b : Nat) : (bleN a b = false) = (¬ a ≤ b) := by simp [bleN]

/-- Data: one record of projections; a kind (static) says which of them counts. -/
inductive D where
  | nil
  | mk (i : Int) (p : Prop) (s : ByteArray) (n : Nat) (row : Nat → Nat → D)

namespace D
def i : D → Int | nil => 0 | mk i _ _ _ _ => i
def p : D → Prop | nil => False | mk _ p _ _ _ => p
def s : D → ByteArray | nil => ByteArray.empty | mk _ _ s _ _ => s
def n : D → Nat | nil => 0 | mk _ _ _ n _ => n
def row : D → Nat → Nat → D | nil => fun _ _ => nil | mk _ _ _ _ r => r
def ofI (x : Int) : D := mk x False ByteArray.empty 0 (fun _ _ => nil)
def ofP (x : Prop) : D := mk 0 x ByteArray.empty 0 (fun _ _ => nil)
def ofS (x : ByteArray) : D := mk 0 False x 0 (fun _ _ => nil)
def ofL (n : Nat) (f : Nat → Nat → D) : D := mk 0 False ByteArray.empty n f
end D

/-- The operations on data, behind one name: while the executor is evaluated they stay closed (a variable of this type). -/
structure Ar where
  add : Int → Int → Int
  sub : Int → Int → Int
  mul : Int → Int → Int
  tdiv : Int → Int → Int
  tmod : Int → Int → Int
  wrap : IntKind → Int → Int
  bit : BinOp → IntKind → Int → Int → Int
  shl : IntKind → Int → Int → Int
  shr : IntKind → Int → Int → Int
  min : Int → Int → Int
  max : Int → Int → Int
  lt : Int → Int → Prop
  le : Int → Int → Prop
  eq : Int → Int → Prop
  inR : IntKind → Int → Prop
  nz : Int → Prop
  nat : Nat → Int
  toNat : Int → Nat
  nadd : Nat → Nat → Nat
  nsub : Nat → Nat → Nat
  nlt : Nat → Nat → Prop
  nle : Nat → Nat → Prop
  neq : Nat → Nat → Prop
  not : Prop → Prop
  and : Prop → Prop → Prop
  iff : Prop → Prop → Prop
  tru : Bool → Prop
  iteI : Prop → Int → Int → Int
  iteN : Prop → Nat → Nat → Nat
  iteP : Prop → Prop → Prop → Prop
  iteS : Prop → ByteArray → ByteArray → ByteArray
  seq : ByteArray → ByteArray → Prop
  slt : ByteArray → ByteArray → Prop
  slen : ByteArray → Nat
  sidx : ByteArray → Int → Int
  sext : ByteArray → Nat → Nat → ByteArray
  scat : ByteArray → ByteArray → ByteArray
  iteR : Prop → (Nat → Nat → D) → (Nat → Nat → D) → Nat → Nat → D
  tab : List (List D) → Nat → Nat → D
  app : Nat → (Nat → Nat → D) → (Nat → Nat → D) → Nat → Nat → D
  setR : (Nat → Nat → D) → Nat → Nat → List D → Nat → Nat → D
  di : D → Int
  dp : D → Prop
  ds : D → ByteArray
  dn : D → Nat
  drow : D → Nat → Nat → D
  ofI : Int → D
  ofP : Prop → D
  ofS : ByteArray → D
  ofL : Nat → (Nat → Nat → D) → D

open Classical in
noncomputable def bitI (op : BinOp) (k : IntKind) (x y : Int) : Int :=
  let a := BitVec.ofInt k.bits x
  let b := BitVec.ofInt k.bits y
  match op with
  | .and => k.wrap (a &&& b).toNat
  | .or => k.wrap (a ||| b).toNat
  | .xor => k.wrap (a ^^^ b).toNat
  | _ => k.wrap (a &&& ~~~b).toNat

open Classical in
noncomputable def Ar.std : Ar where
  add := (· + ·)
  sub := (· - ·)
  mul := (· * ·)
  tdiv := Int.tdiv
  tmod := Int.tmod
  wrap := IntKind.wrap
  bit := bitI
  shl := fun k x y => k.wrap (x * 2 ^ (Nat.min y.toNat k.bits))
  shr := fun k x y => x.fdiv (2 ^ (Nat.min y.toNat k.bits))
  min := fun x y => if y < x then y else x
  max := fun x y => if y > x then y else x
  lt := (· < ·)
  le := (· ≤ ·)
  eq := (· = ·)
  inR := fun k n => k.min ≤ n ∧ n ≤ k.max
  nz := (· ≠ 0)
  nat := fun n => (n : Int)
  toNat := Int.toNat
  nadd := (· + ·)
  nsub := (· - ·)
  nlt := (· < ·)
  nle := (· ≤ ·)
  neq := (· = ·)
  not := Not
  and := And
  iff := Iff
  tru := fun b => b = true
  iteI := fun p x y => if p then x else y
  iteN := fun p x y => if p then x else y
  iteP := fun p x y => if p then x else y
  iteS := fun p x y => if p then x else y
  seq := fun a b => a.toList = b.toList
  slt := fun a b => Op.bytesLess a.toList b.toList = true
  slen := fun s => s.size
  sidx := fun s i => ((s[i.toNat]?.map UInt8.toNat).getD 0 : Nat)
  sext := fun s l h => s.extract l h
  scat := fun a b => a ++ b
  iteR := fun p f g => if p then f else g
  tab := fun l r c => (l.getD r []).getD c .nil
  app := fun n f g r c => if r < n then f r c else g (r - n) c
  setR := fun f i o ds r c => if r = i ∧ o ≤ c ∧ c < o + ds.length then ds.getD (c - o) .nil else f r c
  di := D.i
  dp := D.p
  ds := D.s
  dn := D.n
  drow := D.row
  ofI := D.ofI
  ofP := D.ofP
  ofS := D.ofS
  ofL := D.ofL


/-- Kinds of cells, known statically. -/
inductive Kd where
  | int (k : IntKind)
  | bool
  | str
  | sl (ks : List Kd)
  /-- one function, without captured things -/
  | fnc (f : Nat)
  | raw (zero : Value)

inductive TyD where
  | other
  | struct (fs : List (Nat × Nat))
  | arr (len : Nat) (elem : Nat)
  | slice (elem : Nat)

/-- What is known of a type: is it a struct or an array; its cells' kinds; its bytes; its parts. -/
structure Ty where
  agg : Bool
  ks : List Kd
  bytes : Nat
  d : TyD

structure Sig where
  params : List (Bool × List Kd)
  results : List (Bool × List Kd)

/-- Symbolic values. -/
inductive SV where
  | unk
  | int (k : IntKind) (n : Int)
  | prop (p : Prop)
  | bool (b : Bool)
  | str (s : ByteArray)
  | at (id off : Nat)
  | el (id es idx off : Nat)
  /-- a part of a slice that is owned: from a place on, so many elements -/
  | vw (id es : Nat) (lo : Option Nat) (n : Nat)
  | agg (l : List SV)
  | tup (l : List SV)
  | fn (f : Fn) (first cap : List SV)
  | raw (v : Value)

structure Sl where
  ks : List Kd
  n : Nat
  f : Nat → Nat → D

inductive Res where
  | gone
  | cells (l : List SV)
  | arr (exact : Bool) (s : Sl)

/-- Memory: what is owned (cells, arrays), what is only read (slices), the next name. -/
structure Mm where
  mem : List (Nat × Res)
  ro : List (Nat × Sl)
  next : Nat

structure St where
  nt : Nat
  regs : List (Nat × SV)
  m : Mm

def look {α : Type} : List (Nat × α) → Nat → Option α
  | [], _ => none
  | (k, x) :: r, t => match beqN k t with
    | true => some x
    | false => look r t

structure Env where
  A : Ar
  T : Nat → Option Ty
  sig : Nat → Option Sig
  pre : Nat → List (List D) → Prop
  fn : Nat → List (List D) → Nat → Nat → D
  inl : Nat → Option Func
  cmp : Nat → Bool

/-- What a quiet operation yields: its obligation, its value, new memory. -/
structure QR where
  pre : Option Prop
  sv : SV
  mem : List (Nat × Res)
  ro : List (Nat × Sl)
  next : Nat

def svOf : Value → SV
  | .int k n => .int k n
  | .bool b => .bool b
  | .string s => .str s
  | v => .raw v

def evR (regs : List (Nat × SV)) : Operand → SV
  | .tmp t => match look regs t with
    | some x => x
    | none => .unk
  | .const v => svOf v
  | .func f => .raw (.func (.func f) #[] #[])
  | .global g => .raw (.pointer (some ⟨g, 0, none⟩))

def flat : SV → List SV
  | .agg l => l
  | x => [x]

def slOf (m : Mm) (id : Nat) : Option Sl :=
  match look m.ro id with
  | some s => some s
  | none => match look m.mem id with
    | some (.arr _ s) => some s
    | _ => none

/-- One cell's data as a symbolic value; a slice gets a name. -/
def mkCell (A : Ar) (kd : Kd) (d : D) (nx : Nat) : Option (SV × List (Nat × Sl) × Nat) :=
  match kd with
  | .int k => some (.int k (A.di d), [], nx)
  | .bool => some (.prop (A.dp d), [], nx)
  | .str => some (.str (A.ds d), [], nx)
  | .sl ks => some (.at nx 0, [(nx, ⟨ks, A.dn d, A.drow d⟩)], nx + 1)
  | .fnc f => some (.raw (.func (.func f) ⟨[]⟩ ⟨[]⟩), [], nx)
  | .raw _ => none

def mkCells (A : Ar) : List Kd → (Nat → D) → Nat → Nat → Option (List SV × List (Nat × Sl) × Nat)
  | [], _, _, nx => some ([], [], nx)
  | kd :: r, f, c, nx =>
    match mkCell A kd (f c) nx with
    | some (v, l, nx1) => match mkCells A r f (c + 1) nx1 with
      | some (vs, ls, nx2) => some (v :: vs, l ++ ls, nx2)
      | none => none
    | none => none

def pack (agg : Bool) (l : List SV) : Option SV :=
  match agg with
  | true => some (.agg l)
  | false => match l with
    | [x] => some x
    | _ => none

def vwF (A : Ar) (s : Sl) (lo : Option Nat) : Nat → Nat → D :=
  match lo with
  | none => s.f
  | some l => fun r c => s.f (A.nadd l r) c

/-- The data that a one-cell symbolic value holds. -/
def dOf (A : Ar) (m : Mm) : SV → Option D
  | .int _ n => some (A.ofI n)
  | .prop p => some (A.ofP p)
  | .bool b => some (A.ofP (A.tru b))
  | .str s => some (A.ofS s)
  | .at id 0 => match slOf m id with
    | some s => some (A.ofL s.n s.f)
    | none => none
  | .vw id _ lo n => match slOf m id with
    | some s => some (A.ofL n (vwF A s lo))
    | none => none
  | .raw (.slice none 0 0) => some (A.ofL 0 (fun _ _ => .nil))
  | .raw (.func (.func _) ⟨[]⟩ ⟨[]⟩) => some .nil
  | _ => none

mutual
def kdEq : Kd → Kd → Bool
  | .int k, .int k' => decide (k = k')
  | .bool, .bool => true
  | .str, .str => true
  | .sl a, .sl b => kdsEq a b
  | _, _ => false
def kdsEq : List Kd → List Kd → Bool
  | [], [] => true
  | a :: r, b :: s => kdEq a b && kdsEq r s
  | _, _ => false
end

/-- Does a symbolic value fit a kind? -/
def fits (m : Mm) (kd : Kd) (v : SV) : Bool :=
  match kd, v with
  | .int k, .int k' _ => decide (k = k')
  | .bool, .prop _ => true
  | .bool, .bool _ => true
  | .str, .str _ => true
  | .sl _, .raw (.slice none 0 0) => true
  | .fnc f, .raw (.func (.func f') ⟨[]⟩ ⟨[]⟩) => beqN f f'
  | .sl ks, .at id 0 => match slOf m id with
    | some s => kdsEq ks s.ks
    | none => false
  | .sl ks, .vw id es _ _ => match slOf m id with
    | some s => kdsEq ks s.ks && beqN es s.ks.length
    | none => false
  | _, _ => false

def dList (A : Ar) (m : Mm) : List Kd → List SV → Option (List D)
  | [], [] => some []
  | k :: ks, v :: vs => match fits m k v with
    | true => match dOf A m v with
      | some d => match dList A m ks vs with
        | some l => some (d :: l)
        | none => none
      | none => none
    | false => none
  | _, _ => none

def q0 (m : Mm) (v : SV) : Option QR := some ⟨none, v, [], [], m.next⟩
def q1 (m : Mm) (p : Prop) (v : SV) : Option QR := some ⟨some p, v, [], [], m.next⟩

def signedK : IntKind → Bool
  | .i8 | .i16 | .i32 | .i64 => true
  | _ => false

/-- A sum or the like: of a signed kind it is owed that it fits; of an unsigned one it wraps. -/
def arith (A : Ar) (m : Mm) (k : IntKind) (r : Int) : Option QR :=
  match signedK k with
  | true => q1 m (A.inR k r) (.int k r)
  | false => q0 m (.int k (A.wrap k r))

/-- A value of a bool as a proposition. -/
def asP (A : Ar) : SV → Option Prop
  | .prop p => some p
  | .bool b => some (A.tru b)
  | _ => none

/-- Two cells are equal. -/
def eqC (A : Ar) : Kd → SV → SV → Option Prop
  | .int k, .int k1 a, .int k2 b => match decide (k = k1) && decide (k = k2) with
    | true => some (A.eq a b)
    | false => none
  | .bool, x, y => match asP A x, asP A y with
    | some p, some q => some (A.iff p q)
    | _, _ => none
  | .str, .str a, .str b => some (A.seq a b)
  | _, _, _ => none

def eqCs (A : Ar) : List Kd → List SV → List SV → Option Prop
  | [k], [x], [y] => eqC A k x y
  | k :: ks, x :: xs, y :: ys => match eqC A k x y, eqCs A ks xs ys with
    | some p, some q => some (A.and p q)
    | _, _ => none
  | _, _, _ => none

def eqQ (A : Ar) (m : Mm) (op : BinOp) (p : Prop) : Option QR :=
  match op with
  | .eql => q0 m (.prop p)
  | .neq => q0 m (.prop (A.not p))
  | _ => none

/-- Equality of bools, of structs and of arrays. -/
def xeq (E : Env) (m : Mm) (op : BinOp) (t : Nat) (x y : SV) : Option QR :=
  match E.cmp t, E.T t with
  | true, some ⟨true, ks, _, _⟩ => match x, y with
    | .agg a, .agg b => match eqCs E.A ks a b with
      | some p => eqQ E.A m op p
      | none => none
    | _, _ => none
  | true, some ⟨false, _, _, _⟩ => match asP E.A x, asP E.A y with
    | some p, some q => eqQ E.A m op (E.A.iff p q)
    | _, _ => none
  | _, _ => none

def xbin (E : Env) (m : Mm) (op : BinOp) (t : Nat) (x y : SV) : Option QR :=
  match x, y with
  | .int k a, .int k' b =>
    match op with
    | .shl => q1 m (E.A.le 0 b) (.int k (E.A.shl k a b))
    | .shr => q1 m (E.A.le 0 b) (.int k (E.A.shr k a b))
    | _ => match decide (k = k') with
      | false => none
      | true => match op with
        | .add => arith E.A m k (E.A.add a b)
        | .sub => arith E.A m k (E.A.sub a b)
        | .mul => arith E.A m k (E.A.mul a b)
        | .quo => match signedK k with
          | true => q1 m (E.A.and (E.A.nz b) (E.A.inR k (E.A.tdiv a b))) (.int k (E.A.tdiv a b))
          | false => q1 m (E.A.nz b) (.int k (E.A.wrap k (E.A.tdiv a b)))
        | .rem => q1 m (E.A.nz b) (.int k (E.A.tmod a b))
        | .and => q0 m (.int k (E.A.bit .and k a b))
        | .or => q0 m (.int k (E.A.bit .or k a b))
        | .xor => q0 m (.int k (E.A.bit .xor k a b))
        | .andNot => q0 m (.int k (E.A.bit .andNot k a b))
        | .eql => q0 m (.prop (E.A.eq a b))
        | .neq => q0 m (.prop (E.A.not (E.A.eq a b)))
        | .lss => q0 m (.prop (E.A.lt a b))
        | .leq => q0 m (.prop (E.A.le a b))
        | .gtr => q0 m (.prop (E.A.lt b a))
        | .geq => q0 m (.prop (E.A.le b a))
        | _ => none
  | .str a, .str b => match op with
    | .eql => q0 m (.prop (E.A.seq a b))
    | .neq => q0 m (.prop (E.A.not (E.A.seq a b)))
    | _ => none
  | x, y => xeq E m op t x y

def xun (E : Env) (m : Mm) (op : UnOp) (x : SV) : Option QR :=
  match op, x with
  | .neg, .int k n => arith E.A m k (E.A.sub 0 n)
  | .not, .prop p => q0 m (.prop (E.A.not p))
  | .not, .bool b => q0 m (.bool (!b))
  | _, _ => none

def xconv (E : Env) (m : Mm) (src dst : Nat) (x : SV) : Option QR :=
  match E.T src, E.T dst, x with
  | some _, some ⟨false, [.int k], _, _⟩, .int _ n => match signedK k with
    | true => q1 m (E.A.inR k n) (.int k n)
    | false => q0 m (.int k (E.A.wrap k n))
  | _, _, _ => none

def xload (E : Env) (m : Mm) (t : Nat) (x : SV) : Option QR :=
  match E.T t with
  | none => none
  | some ty => match x with
    | .at id off => match look m.mem id with
      | some (.cells l) =>
        match bleN (off + ty.ks.length) l.length with
        | true => match pack ty.agg ((l.drop off).take ty.ks.length) with
          | some v => q0 m v
          | none => none
        | false => none
      | _ => none
    | .el id es idx off => match slOf m id with
      | some s =>
        match bleN (off + ty.ks.length) s.ks.length && beqN es s.ks.length with
        | true => match mkCells E.A ((s.ks.drop off).take ty.ks.length) (s.f idx) off m.next with
          | some (vs, l, nx) => match pack ty.agg vs with
            | some v => some ⟨none, v, [], l, nx⟩
            | none => none
          | none => none
        | false => none
      | none => none
    | _ => none

def nzSize (E : Env) (t : Nat) : Bool :=
  match E.T t with
  | some ⟨_, _ :: _, _, _⟩ => true
  | _ => false

def xfieldAddr (E : Env) (m : Mm) (t : Nat) (x : SV) (i : Nat) : Option QR :=
  match E.T t with
  | some ⟨_, _, _, .struct fs⟩ => match fs[i]? with
    | some (o, ft) => match nzSize E ft with
      | true => match x with
        | .at id off => match look m.mem id with
          | some (.cells _) => q0 m (.at id (off + o))
          | _ => none
        | .el id es idx off => q0 m (.el id es idx (off + o))
        | _ => none
      | false => none
    | none => none
  | _ => none

def xindexAddr (E : Env) (m : Mm) (t : Nat) (x i : SV) : Option QR :=
  match E.T t with
  | some ⟨_, _, _, .slice e⟩ => match E.T e with
    | some ety => match x, i with
      | .at id 0, .int _ n => match slOf m id with
        | some s => match beqN ety.ks.length s.ks.length with
          | true => q1 m (E.A.and (E.A.le 0 n) (E.A.lt n (E.A.nat s.n))) (.el id s.ks.length (E.A.toNat n) 0)
          | false => none
        | none => none
      | _, _ => none
    | none => none
  | some ⟨_, _, _, .arr len e⟩ => match i, E.T e with
    | .int _ n, some ety => match decide (0 ≤ n), bleN (n.toNat + 1) len with
      | true, true => match x with
        | .at id off => match look m.mem id with
          | some (.cells _) => q0 m (.at id (off + n.toNat * ety.ks.length))
          | _ => none
        | .el id es idx off => q0 m (.el id es idx (off + n.toNat * ety.ks.length))
        | _ => none
      | _, _ => none
    | _, _ => none
  | _ => none

def zeroCell : Kd → SV
  | .int k => .int k 0
  | .bool => .bool false
  | .str => .str ByteArray.empty
  | .sl _ => .raw (.slice none 0 0)
  | .fnc f => .raw (.func (.func f) ⟨[]⟩ ⟨[]⟩)
  | .raw v => .raw v

def zeroD : Kd → D
  | .int _ => .ofI 0
  | .bool => .ofP False
  | .str => .ofS ByteArray.empty
  | .sl _ => .ofL 0 (fun _ _ => .nil)
  | .fnc _ => .nil
  | .raw _ => .nil

/-- a value of one cell -/
def oneV : Value → Bool
  | .agg _ | .tuple _ => false
  | _ => true
def oneC : SV → Bool
  | .unk => false
  | .tup _ => false
  | .agg _ => false
  | .raw v => oneV v
  | _ => true

/-- Put a part's cells over others, from a place on. -/
def over {α : Type} : List α → Nat → List α → List α
  | l, _, [] => l
  | [], _, _ => []
  | _ :: r, 0, v :: vs => v :: over r 0 vs
  | x :: r, n + 1, v :: vs => x :: over r n (v :: vs)

def fillS (E : Env) (fs : List (Nat × Nat)) (ev : Operand → SV) : List (Nat × Operand) → List SV → Option (List SV)
  | [], l => some l
  | (i, x) :: r, l => match fs[i]? with
    | some (o, ft) => match E.T ft with
      | some ty =>
        match beqN (flat (ev x)).length ty.ks.length && bleN (o + (flat (ev x)).length) l.length && (flat (ev x)).all oneC with
        | true => fillS E fs ev r (over l o (flat (ev x)))
        | false => none
      | none => none
    | none => none

def fillA (es : Nat) (ev : Operand → SV) : List (Nat × Operand) → List SV → Option (List SV)
  | [], l => some l
  | (i, x) :: r, l =>
    match beqN (flat (ev x)).length es && bleN (i * es + (flat (ev x)).length) l.length && (flat (ev x)).all oneC with
    | true => fillA es ev r (over l (i * es) (flat (ev x)))
    | false => none

def xbuild (E : Env) (m : Mm) (t : Nat) (parts : List (Nat × Operand)) (ev : Operand → SV) : Option QR :=
  match E.T t with
  | some ⟨true, ks, _, .struct fs⟩ => match fillS E fs ev parts (ks.map zeroCell) with
    | some l => q0 m (.agg l)
    | none => none
  | some ⟨true, ks, _, .arr _ e⟩ => match E.T e with
    | some ety => match fillA ety.ks.length ev parts (ks.map zeroCell) with
      | some l => q0 m (.agg l)
      | none => none
    | none => none
  | _ => none

def chunks (es : Nat) : Nat → List SV → List (List SV)
  | 0, _ => []
  | n + 1, l => l.take es :: chunks es n (l.drop es)

def dRows (A : Ar) (m : Mm) (ks : List Kd) : List (List SV) → Option (List (List D))
  | [] => some []
  | l :: r => match dList A m ks l with
    | some d => match dRows A m ks r with
      | some ds => some (d :: ds)
      | none => none
    | none => none

/-- No owned array is among the values (what lies in an array's cells is only read). -/
def plain (m : Mm) : SV → Bool
  | .at id _ => match look m.ro id with
    | some _ => true
    | none => false
  | .vw id _ _ _ => match look m.ro id with
    | some _ => true
    | none => false
  | .unk => false
  | .el .. => false
  | .agg _ => false
  | .tup _ => false
  | .fn .. => false
  | _ => true

def rep (n : Nat) (l : List SV) : List SV :=
  match n with
  | 0 => []
  | n + 1 => l ++ rep n l

def xbuildSlice (E : Env) (m : Mm) (t len : Nat) (parts : List (Nat × Operand)) (ev : Operand → SV) : Option QR :=
  match E.T t with
  | some ⟨_, _, _, .slice e⟩ => match E.T e with
    | some ety => match bleN (len * ety.ks.length) 4096 with
      | true => match fillA ety.ks.length ev parts (rep len (ety.ks.map zeroCell)) with
        | some l => match l.all (plain m) with
          | true => match dRows E.A m ety.ks (chunks ety.ks.length len l) with
            | some ds => some ⟨none, .at m.next 0, [(m.next, .arr true ⟨ety.ks, len, E.A.tab ds⟩)], [], m.next + 1⟩
            | none => none
          | false => none
        | none => none
      | false => none
    | none => none
  | _ => none

def xmakeSlice (E : Env) (m : Mm) (t : Nat) (l c : SV) : Option QR :=
  match E.T t, l, c with
  | some ⟨_, _, _, .slice e⟩, .int .i64 n, .int .i64 n' => match E.T e with
    | some ety => some ⟨some (E.A.and (E.A.eq n n') (E.A.and (E.A.le 0 n) (E.A.le (E.A.mul n (E.A.nat ety.bytes)) 140737488355328))), .at m.next 0,
        [(m.next, .arr true ⟨ety.ks, E.A.toNat n, fun _ c => zeroD (ety.ks.getD c .bool)⟩)], [], m.next + 1⟩
    | none => none
  | _, _, _ => none

def sizeIs (E : Env) (e n : Nat) : Bool :=
  match E.T e with
  | some ety => beqN ety.ks.length n
  | none => false

def xslice (E : Env) (m : Mm) (t : Nat) (x : SV) (lo hi : Option SV) : Option QR :=
  match E.T t, x with
  | some ⟨_, _, _, .slice e⟩, .at id 0 => match look m.ro id with
    | some s => match sizeIs E e s.ks.length with
      | true => match lo, hi with
        | some (.int _ l), none => some ⟨some (E.A.and (E.A.le 0 l) (E.A.le l (E.A.nat s.n))), .at m.next 0, [],
            [(m.next, ⟨s.ks, E.A.nsub s.n (E.A.toNat l), fun r c => s.f (E.A.nadd (E.A.toNat l) r) c⟩)], m.next + 1⟩
        | none, some (.int _ h) => some ⟨some (E.A.and (E.A.le 0 h) (E.A.le h (E.A.nat s.n))), .at m.next 0, [],
            [(m.next, ⟨s.ks, E.A.toNat h, s.f⟩)], m.next + 1⟩
        | some (.int _ l), some (.int _ h) => some ⟨some (E.A.and (E.A.le 0 l) (E.A.and (E.A.le l h) (E.A.le h (E.A.nat s.n)))), .at m.next 0, [],
            [(m.next, ⟨s.ks, E.A.nsub (E.A.toNat h) (E.A.toNat l), fun r c => s.f (E.A.nadd (E.A.toNat l) r) c⟩)], m.next + 1⟩
        | _, _ => none
      | false => none
    | none => match look m.mem id with
      | some (.arr _ s) => match sizeIs E e s.ks.length with
        | true => match lo, hi with
          | some (.int _ l), none => q1 m (E.A.and (E.A.le 0 l) (E.A.le l (E.A.nat s.n))) (.vw id s.ks.length (some (E.A.toNat l)) (E.A.nsub s.n (E.A.toNat l)))
          | none, some (.int _ h) => q1 m (E.A.and (E.A.le 0 h) (E.A.le h (E.A.nat s.n))) (.vw id s.ks.length none (E.A.toNat h))
          | some (.int _ l), some (.int _ h) => q1 m (E.A.and (E.A.le 0 l) (E.A.and (E.A.le l h) (E.A.le h (E.A.nat s.n)))) (.vw id s.ks.length (some (E.A.toNat l)) (E.A.nsub (E.A.toNat h) (E.A.toNat l)))
          | _, _ => none
        | false => none
      | _ => none
  | _, _ => none

def minmax (f : Int → Int → Int) : List SV → Option (IntKind × Int)
  | [.int k n] => some (k, n)
  | .int k n :: .int k' n' :: r => match decide (k = k') with
    | true => minmaxGo f k (f n n') r
    | false => none
  | _ => none
where
  minmaxGo (f : Int → Int → Int) (k : IntKind) (n : Int) : List SV → Option (IntKind × Int)
    | [] => some (k, n)
    | .int k' n' :: r => match decide (k = k') with
      | true => minmaxGo f k (f n n') r
      | false => none
    | _ => none

def xlen (E : Env) (m : Mm) (t : Nat) (x : SV) : Option QR :=
  match E.T t, x with
  | some ⟨_, _, _, .slice _⟩, .at id 0 => match slOf m id with
    | some s => q0 m (.int .i64 (E.A.nat s.n))
    | none => none
  | some ⟨_, _, _, .slice _⟩, .vw _ _ _ n => q0 m (.int .i64 (E.A.nat n))
  | some ⟨_, _, _, .slice _⟩, .raw (.slice none 0 0) => q0 m (.int .i64 0)
  | some ⟨false, [.str], _, _⟩, .str s => q0 m (.int .i64 (E.A.nat (E.A.slen s)))
  | _, _ => none

def argsD (A : Ar) (m : Mm) : List (Bool × List Kd) → List SV → Option (List (List D))
  | [], [] => some []
  | (_, ks) :: r, v :: vs => match dList A m ks (flat v) with
    | some d => match argsD A m r vs with
      | some ds => some (d :: ds)
      | none => none
    | none => none
  | _, _ => none

def aggOk : List (Bool × List Kd) → List SV → Bool
  | [], [] => true
  | (true, _) :: r, .agg _ :: vs => aggOk r vs
  | (false, _) :: _, .agg _ :: _ => false
  | (false, _) :: r, _ :: vs => aggOk r vs
  | _, _ => false

def resSV (A : Ar) (f : Nat → Nat → D) : List (Bool × List Kd) → Nat → Nat → Option (List SV × List (Nat × Sl) × Nat)
  | [], _, nx => some ([], [], nx)
  | (g, ks) :: r, i, nx =>
    match mkCells A ks (f i) 0 nx with
    | some (vs, l, nx1) => match pack g vs with
      | some v => match resSV A f r (i + 1) nx1 with
        | some (ws, l', nx2) => some (v :: ws, l ++ l', nx2)
        | none => none
      | none => none
    | none => none

def one (l : List SV) : SV :=
  match l with
  | [x] => x
  | l => .tup l

def scalarK : Kd → Bool
  | .int _ => true
  | .bool => true
  | .str => true
  | _ => false

def plainArgs (m : Mm) (args : List SV) : Bool :=
  args.all fun v => (flat v).all fun x => match x with
    | .at id _ => match look m.ro id with
      | some _ => true
      | none => false
    | .vw id _ _ _ => match look m.ro id with
      | some _ => true
      | none => false
    | _ => true

/-- What a call yields that makes its results anew: its slices are owned by the caller. -/
def mkCellF (A : Ar) (kd : Kd) (d : D) (nx : Nat) : Option (SV × List (Nat × Res) × Nat) :=
  match kd with
  | .int k => some (.int k (A.di d), [], nx)
  | .bool => some (.prop (A.dp d), [], nx)
  | .str => some (.str (A.ds d), [], nx)
  | .sl ks => match ks.all scalarK with
    | true => some (.at nx 0, [(nx, .arr false ⟨ks, A.dn d, A.drow d⟩)], nx + 1)
    | false => none
  | _ => none

def mkCellsF (A : Ar) : List Kd → (Nat → D) → Nat → Nat → Option (List SV × List (Nat × Res) × Nat)
  | [], _, _, nx => some ([], [], nx)
  | kd :: r, f, c, nx =>
    match mkCellF A kd (f c) nx with
    | some (v, l, nx1) => match mkCellsF A r f (c + 1) nx1 with
      | some (vs, ls, nx2) => some (v :: vs, l ++ ls, nx2)
      | none => none
    | none => none

def resSVF (A : Ar) (f : Nat → Nat → D) : List (Bool × List Kd) → Nat → Nat → Option (List SV × List (Nat × Res) × Nat)
  | [], _, nx => some ([], [], nx)
  | (g, ks) :: r, i, nx =>
    match mkCellsF A ks (f i) 0 nx with
    | some (vs, l, nx1) => match pack g vs with
      | some v => match resSVF A f r (i + 1) nx1 with
        | some (ws, l', nx2) => some (v :: ws, l ++ l', nx2)
        | none => none
      | none => none
    | none => none

/-- Does a function make its results anew? (The table of types that can be compared holds these, too: far beyond all types.) -/
def freshN (f : Nat) : Nat := f + 1000000

/-- A call of a function whose law is known. -/
def xcall (E : Env) (m : Mm) (f : Nat) (args : List SV) : Option QR :=
  match E.sig f with
  | some sg => match E.cmp (freshN f) with
    | true => match aggOk sg.params args with
      | true => match argsD E.A m sg.params args with
        | some ds => match resSVF E.A (E.fn f ds) sg.results 0 m.next with
          | some (vs, l, nx) => some ⟨some (E.pre f ds), one vs, l, [], nx⟩
          | none => none
        | none => none
      | false => none
    | false => match aggOk sg.params args && ((sg.results.all fun r => r.2.all scalarK) || plainArgs m args) with
      | true => match argsD E.A m sg.params args with
        | some ds => match resSV E.A (E.fn f ds) sg.results 0 m.next with
          | some (vs, l, nx) => some ⟨some (E.pre f ds), one vs, [], l, nx⟩
          | none => none
        | none => none
      | false => none
  | none => none

def xcallB (E : Env) (m : Mm) (b : Builtin) (args : List SV) (ts : List Nat) : Option QR :=
  match b with
  | .len => match args, ts with
    | [x], [t] => xlen E m t x
    | _, _ => none
  | .min => match minmax E.A.min args with
    | some (k, n) => q0 m (.int k n)
    | none => none
  | .max => match minmax E.A.max args with
    | some (k, n) => q0 m (.int k n)
    | none => none
  | _ => none

def known : SV → Bool
  | .unk => false
  | _ => true

/-- A quiet operation: it writes nothing that was there. -/
def xq (E : Env) (m : Mm) (ev : Operand → SV) : Op → Option QR
  | .move x => q0 m (ev x)
  | .assign x => q0 m (ev x)
  | .pick c a b => match ev c with
    | .bool true => q0 m (ev a)
    | .bool false => q0 m (ev b)
    | _ => none
  | .alloc t => match E.T t with
    | some ty => some ⟨none, .at m.next 0, [(m.next, .cells (ty.ks.map zeroCell))], [], m.next + 1⟩
    | none => none
  | .box _ x => match (flat (ev x)).all oneC with
    | true => some ⟨none, .at m.next 0, [(m.next, .cells (flat (ev x)))], [], m.next + 1⟩
    | false => none
  | .build t ps => xbuild E m t ps.toList ev
  | .buildSlice t n ps => xbuildSlice E m t n ps.toList ev
  | .load t x => xload E m t (ev x)
  | .nilCheck x => match ev x with
    | .at id off => match look m.mem id with
      | some (.cells _) => q0 m (.at id off)
      | _ => none
    | .el id es idx off => q0 m (.el id es idx off)
    | .fn (.func f) a b => q0 m (.fn (.func f) a b)
    | _ => none
  | .binOp op t x y _ => xbin E m op t (ev x) (ev y)
  | .unOp op _ x => xun E m op (ev x)
  | .convert s t x => xconv E m s t (ev x)
  | .makeFunc f a b => match (a.toList.map ev).all known && (b.toList.map ev).all known with
    | true => q0 m (.fn f (a.toList.map ev) (b.toList.map ev))
    | false => none
  | .makeSlice t l c => xmakeSlice E m t (ev l) (ev c)
  | .slice t x lo hi none => xslice E m t (ev x) (lo.map ev) (hi.map ev)
  | .fieldAddr t x i => xfieldAddr E m t (ev x) i
  | .field t x i => match E.T t, ev x with
    | some ⟨_, _, _, .struct fs⟩, .agg l => match fs[i]? with
      | some (o, ft) => match E.T ft with
        | some ty =>
          match bleN (o + ty.ks.length) l.length with
          | true => match pack ty.agg ((l.drop o).take ty.ks.length) with
            | some v => q0 m v
            | none => none
          | false => none
        | none => none
      | none => none
    | _, _ => none
  | .indexAddr t x i => xindexAddr E m t (ev x) (ev i)
  | .extract x i => match ev x with
    | .tup l => match l[i]? with
      | some v => q0 m v
      | none => none
    | _ => none
  | .call c => match c.callee with
    | .builtin b => xcallB E m b (c.args.toList.map ev) c.argTypes.toList
    | .value (.func f) => xcall E m f (c.args.toList.map ev)
    | _ => none
  | _ => none

/-- What an operation that writes comes to. -/
structure WR where
  pre : Option Prop
  sv : SV
  m : Mm

/-- What was owned is from now on only read. -/
def frz (m : Mm) (id : Nat) : Mm :=
  match look m.ro id with
  | some _ => m
  | none => match look m.mem id with
    | some (.arr _ s) => ⟨(id, .gone) :: m.mem, (id, s) :: m.ro, m.next⟩
    | _ => m

def frzL (m : Mm) : List SV → Mm
  | [] => m
  | .at id _ :: r => frzL (frz m id) r
  | .vw id _ _ _ :: r => frzL (frz m id) r
  | .agg l :: r => frzL (frzA m l) r
  | _ :: r => frzL m r
where
  frzA (m : Mm) : List SV → Mm
    | [] => m
    | .at id _ :: r => frzA (frz m id) r
    | .vw id _ _ _ :: r => frzA (frz m id) r
    | _ :: r => frzA m r

def xstore (E : Env) (m : Mm) (t : Nat) (x v : SV) : Option WR :=
  match E.T t with
  | some ty => match beqN (flat v).length ty.ks.length && (flat v).all oneC with
    | true => match x with
      | .at id off => match look m.mem id with
        | some (.cells l) => match bleN (off + (flat v).length) l.length with
          | true => some ⟨none, .raw undef, ⟨(id, .cells (over l off (flat v))) :: m.mem, m.ro, m.next⟩⟩
          | false => none
        | _ => none
      | .el id es idx off => match look m.mem id with
        | some (.arr ex s) =>
          match beqN es s.ks.length && bleN (off + ty.ks.length) s.ks.length && (flat v).all (plain m) with
          | true => match dList E.A m ((s.ks.drop off).take ty.ks.length) (flat v) with
            | some ds => some ⟨none, .raw undef, ⟨(id, .arr ex ⟨s.ks, s.n, E.A.setR s.f idx off ds⟩) :: m.mem, m.ro, m.next⟩⟩
            | none => none
          | false => none
        | _ => none
      | _ => none
    | false => none
  | none => none

def srcOf (m : Mm) (ks : List Kd) (y : SV) : Option Sl :=
  match y with
  | .at id 0 => match slOf m id with
    | some s => match kdsEq s.ks ks with
      | true => some s
      | false => none
    | none => none
  | .raw (.slice none 0 0) => some ⟨ks, 0, fun _ _ => .nil⟩
  | _ => none

def xappend (E : Env) (m : Mm) (t : Nat) (x y : SV) : Option WR :=
  match E.T t with
  | some ⟨_, _, _, .slice e⟩ => match E.T e with
    | some ety => match srcOf m ety.ks y with
      | some s2 => match x with
        | .raw (.slice none 0 0) => some ⟨some (E.A.le (E.A.mul (E.A.nat s2.n) (E.A.nat ety.bytes)) 140737488355328), .at m.next 0,
            ⟨(m.next, .arr false ⟨ety.ks, s2.n, s2.f⟩) :: m.mem, m.ro, m.next + 1⟩⟩
        | .at id 0 => match look m.ro id, look m.mem id with
          | none, some (.arr _ s) => match kdsEq s.ks ety.ks && (match y with | .at id' _ => !(beqN id id') | _ => true) with
            | true => some ⟨some (E.A.le (E.A.mul (E.A.nat (E.A.nadd s.n s2.n)) (E.A.nat ety.bytes)) 140737488355328), .at m.next 0,
                ⟨(m.next, .arr false ⟨ety.ks, E.A.nadd s.n s2.n, E.A.app s.n s.f s2.f⟩) :: (id, .gone) :: m.mem, m.ro, m.next + 1⟩⟩
            | false => none
          | _, _ => none
        | _ => none
      | none => none
    | none => none
  | _ => none

/-- An operation that writes. -/
def xw (E : Env) (m : Mm) (ev : Operand → SV) : Op → Option WR
  | .store t x v => xstore E m t (ev x) (ev v)
  | .call c => match c.callee with
    | .builtin .append => match c.args.toList, c.argTypes.toList with
      | [x, y], [t, t'] => match beqN t t' with
        | true => xappend E m t (ev x) (ev y)
        | false => none
      | _, _ => none
    | _ => none
  | _ => none

/-- What an operation wants frozen ahead of it: the slices that go into a literal or an array, or into a call that hands slices back. -/
def wants (E : Env) (ev : Operand → SV) : Op → List SV
  | .buildSlice _ _ ps => ps.toList.map fun p => ev p.2
  | .store _ x v => match ev x with
    | .el .. => [ev v]
    | _ => []
  | .call c => match c.callee with
    | .value (.func f) => match E.sig f with
      | some sg => match (sg.results.all fun r => r.2.all scalarK) || E.cmp (freshN f) with
        | true => []
        | false => c.args.toList.map ev
      | none => []
    | _ => []
  | _ => []

end SX

/-
  SX: what a symbolic state says of a frame and a world.
-/
namespace SX
open Go

def shiftV : Value → Nat → Value
  | .pointer (some a), n => .pointer (some (a.add n))
  | v, _ => v

def elp : Value → Nat → Value
  | .slice (some a) _ _, n => .pointer (some (a.add n))
  | _, _ => undef

def vwV : Value → Nat → Option Nat → Nat → Value
  | .slice a _ cap, _, none, n => .slice a n cap
  | .slice a _ cap, es, some l, n => .slice (if cap = l then a else a.map (·.add (l * es))) n (cap - l)
  | _, _, _, _ => undef

open Classical in
mutual
noncomputable def den (ρ : Nat → Value) : SV → Value
  | .unk => undef
  | .int k n => .int k n
  | .prop p => .bool (decide p)
  | .bool b => .bool b
  | .str s => .string s
  | .at id off => shiftV (ρ id) off
  | .el id es idx off => elp (ρ id) (idx * es + off)
  | .vw id es lo n => vwV (ρ id) es lo n
  | .agg l => .agg (denL ρ l).toArray
  | .tup l => .tuple (denL ρ l).toArray
  | .fn f a b => .func f (denL ρ a).toArray (denL ρ b).toArray
  | .raw v => v
noncomputable def denL (ρ : Nat → Value) : List SV → List Value
  | [] => []
  | x :: r => den ρ x :: denL ρ r
end

mutual
/-- all names are below n; an element's address is that of one that is there -/
def SV.lt (ρ : Nat → Value) (n : Nat) : SV → Prop
  | .at id _ => id < n ∧ oneV (ρ id) = true
  | .el id _ idx _ => id < n ∧ ∃ a len cap, ρ id = .slice (some a) len cap ∧ idx < len
  | .vw id _ lo k => id < n ∧ ∃ a len cap, ρ id = .slice a len cap ∧ lo.getD 0 + k ≤ len
  | .agg l => ltL ρ n l
  | .tup l => ltL ρ n l
  | .fn _ a b => ltL ρ n a ∧ ltL ρ n b
  | _ => True
def ltL (ρ : Nat → Value) (n : Nat) : List SV → Prop
  | [] => True
  | x :: r => SV.lt ρ n x ∧ ltL ρ n r
end

open Classical in
mutual
def RdK (w : World) (R : Nat → Prop) : Kd → D → Value → Prop
  | .int k, d, u => u = .int k d.i
  | .bool, d, u => u = .bool (decide d.p)
  | .str, d, u => u = .string d.s
  | .sl ks, d, u => ∃ a cap, u = .slice a d.n cap ∧ d.n ≤ cap ∧ cap ≤ maxLen ∧
      ∀ r, r < d.n → ∃ ad, a = some ad ∧ R ad.block ∧ RdKs w R ks (d.row r) (fun c => w.cell? (ad.add (r * ks.length + c))) 0
  | .fnc f, _, u => u = .func (.func f) #[] #[]
  | .raw _, _, _ => True
def RdKs (w : World) (R : Nat → Prop) : List Kd → (Nat → D) → (Nat → Option Value) → Nat → Prop
  | [], _, _, _ => True
  | k :: ks, f, g, c => (∃ u, g c = some u ∧ RdK w R k (f c) u) ∧ RdKs w R ks f g (c + 1)
end

def ownB : Value → Option Nat
  | .pointer (some a) => some a.block
  | .slice (some a) _ _ => some a.block
  | _ => none

/-- The cells of a row hold the data. -/
def RowOk (w : World) (R : Nat → Prop) (s : Sl) (cur : Array Value) : Prop :=
  ∀ r, r < s.n → RdKs w R s.ks (s.f r) (fun c => cur[r * s.ks.length + c]?) 0

def ResOk (ρ : Nat → Value) (R : Nat → Prop) (w : World) (nx id : Nat) : Res → Prop
  | .gone => True
  | .cells l => ltL ρ nx l ∧ (∀ x ∈ l, oneC x = true) ∧ ∃ b ty, ρ id = .pointer (some ⟨b, 0, none⟩) ∧ w.heap[b]? = some (.cells (denL ρ l).toArray ty (0, 0))
  | .arr ex s => (s.n = 0 ∧ ρ id = .slice none 0 0) ∨
      ∃ b cap cur ty, ρ id = .slice (some ⟨b, 0, none⟩) s.n cap ∧ s.n ≤ cap ∧ (ex = true → cap = s.n) ∧ cap ≤ maxLen ∧
        w.heap[b]? = some (.cells cur ty (0, 0)) ∧ cur.size = cap * s.ks.length ∧ RowOk w R s cur

structure SatM (ρ : Nat → Value) (R : Nat → Prop) (m : Mm) (w : World) : Prop where
  mem : ∀ id r, look m.mem id = some r → id < m.next ∧ ResOk ρ R w m.next id r
  sep1 : ∀ id r, look m.mem id = some r → r ≠ .gone → ∀ b, ownB (ρ id) = some b → ¬ R b
  sep2 : ∀ id r id' r', id ≠ id' → look m.mem id = some r → look m.mem id' = some r' → r ≠ .gone → r' ≠ .gone →
    ∀ b, ownB (ρ id) = some b → ownB (ρ id') ≠ some b
  ro : ∀ id s, look m.ro id = some s → id < m.next ∧ RdK w R (.sl s.ks) (.ofL s.n s.f) (ρ id)
  Rlt : ∀ b, R b → b < w.heap.size

def Den (ρ : Nat → Value) (nx : Nat) (sv : SV) (v : Value) : Prop := sv = .unk ∨ (v = den ρ sv ∧ sv.lt ρ nx)

structure Sat (ρ : Nat → Value) (R : Nat → Prop) (S : St) (a : Act) (w : World) : Prop where
  m : SatM ρ R S.m w
  size : a.tmps.size = S.nt
  regs : ∀ t sv, look S.regs t = some sv → ∃ v, a.tmps[t]? = some v ∧ Den ρ S.m.next sv v

/-- What was kept stays; the streams stay. -/
structure Ext (R : Nat → Prop) (w w' : World) : Prop where
  os : w'.os = w.os
  tape : w'.tape = w.tape
  output : w'.output = w.output
  size : w.heap.size ≤ w'.heap.size
  keep : ∀ b, R b → w'.heap[b]? = w.heap[b]?

def agree (lo : Nat) (ρ ρ' : Nat → Value) : Prop := ∀ i, i < lo → ρ' i = ρ i

/-- What is owned. -/
def Owns (ρ : Nat → Value) (m : Mm) (b : Nat) : Prop := ∃ id x, look m.mem id = some x ∧ x ≠ .gone ∧ ownB (ρ id) = some b

/-- What is not owned stays, and what is owned later was owned before or is new. -/
structure Fr (O : Nat → Prop) (w : World) (O' : Nat → Prop) (w' : World) : Prop where
  os : w'.os = w.os
  tape : w'.tape = w.tape
  output : w'.output = w.output
  size : w.heap.size ≤ w'.heap.size
  keep : ∀ b, b < w.heap.size → ¬ O b → w'.heap[b]? = w.heap[b]?
  own : ∀ b, O' b → O b ∨ w.heap.size ≤ b

theorem Fr.refl (O : Nat → Prop) (w : World) : Fr O w O w := ⟨rfl, rfl, rfl, Nat.le_refl _, fun _ _ _ => rfl, fun _ h => .inl h⟩
theorem Fr.trans {O O1 O2 : Nat → Prop} {w w1 w2 : World} (h : Fr O w O1 w1) (k : Fr O1 w1 O2 w2) : Fr O w O2 w2 := by
  refine ⟨k.os.trans h.os, k.tape.trans h.tape, k.output.trans h.output, Nat.le_trans h.size k.size, fun b hb ho => ?_, fun b hb => ?_⟩
  · refine (k.keep b (Nat.lt_of_lt_of_le hb h.size) fun h1 => ?_).trans (h.keep b hb ho)
    rcases h.own b h1 with h2 | h2
    · exact ho h2
    · omega
  · rcases k.own b hb with h1 | h1
    · exact h.own b h1
    · exact .inr (Nat.le_trans h.size h1)

theorem Ext.refl (R : Nat → Prop) (w : World) : Ext R w w := ⟨rfl, rfl, rfl, Nat.le_refl _, fun _ _ => rfl⟩
theorem Ext.trans {R R' : Nat → Prop} {a b c : World} (h : Ext R a b) (k : Ext R' b c) (hR : ∀ x, R x → R' x) : Ext R a c :=
  ⟨k.os.trans h.os, k.tape.trans h.tape, k.output.trans h.output, Nat.le_trans h.size k.size, fun x hx => (k.keep x (hR x hx)).trans (h.keep x hx)⟩
theorem agree.refl (lo : Nat) (ρ : Nat → Value) : agree lo ρ ρ := fun _ _ => rfl
theorem agree.trans {lo : Nat} {a b c : Nat → Value} (h : agree lo a b) (k : agree lo b c) : agree lo a c := fun i hi => (k i hi).trans (h i hi)
theorem agree.mono {lo lo' : Nat} {a b : Nat → Value} (h : agree lo a b) (hl : lo' ≤ lo) : agree lo' a b := fun i hi => h i (Nat.lt_of_lt_of_le hi hl)

mutual
theorem den_congr {ρ ρ' : Nat → Value} {n : Nat} (h : agree n ρ ρ') : ∀ sv : SV, sv.lt ρ n → den ρ' sv = den ρ sv
  | .unk, _ => rfl
  | .int .., _ => rfl
  | .prop _, _ => rfl
  | .bool _, _ => rfl
  | .str _, _ => rfl
  | .at id off, hl => by simp only [den]; rw [h id hl.1]
  | .el id _ _ _, hl => by simp only [den]; rw [h id hl.1]
  | .vw id _ _ _, hl => by simp only [den]; rw [h id hl.1]
  | .agg l, hl => by simp only [den]; rw [denL_congr h l hl]
  | .tup l, hl => by simp only [den]; rw [denL_congr h l hl]
  | .fn _ a b, hl => by simp only [den]; rw [denL_congr h a hl.1, denL_congr h b hl.2]
  | .raw _, _ => rfl
theorem denL_congr {ρ ρ' : Nat → Value} {n : Nat} (h : agree n ρ ρ') : ∀ l : List SV, ltL ρ n l → denL ρ' l = denL ρ l
  | [], _ => rfl
  | x :: r, hl => by simp only [denL]; rw [den_congr h x hl.1, denL_congr h r hl.2]
end

mutual
theorem SV.lt_mono {ρ ρ' : Nat → Value} {n n' : Nat} (h : n ≤ n') (hr : agree n ρ ρ') : ∀ sv : SV, sv.lt ρ n → sv.lt ρ' n'
  | .unk, _ => trivial
  | .int .., _ => trivial
  | .prop _, _ => trivial
  | .bool _, _ => trivial
  | .str _, _ => trivial
  | .at id _, hl => ⟨Nat.lt_of_lt_of_le hl.1 h, by rw [hr id hl.1]; exact hl.2⟩
  | .el id _ _ _, hl => ⟨Nat.lt_of_lt_of_le hl.1 h, by rw [hr id hl.1]; exact hl.2⟩
  | .vw id _ _ _, hl => ⟨Nat.lt_of_lt_of_le hl.1 h, by rw [hr id hl.1]; exact hl.2⟩
  | .agg l, hl => ltL_mono h hr l hl
  | .tup l, hl => ltL_mono h hr l hl
  | .fn _ a b, hl => ⟨ltL_mono h hr a hl.1, ltL_mono h hr b hl.2⟩
  | .raw _, _ => trivial
theorem ltL_mono {ρ ρ' : Nat → Value} {n n' : Nat} (h : n ≤ n') (hr : agree n ρ ρ') : ∀ l : List SV, ltL ρ n l → ltL ρ' n' l
  | [], _ => trivial
  | x :: r, hl => ⟨SV.lt_mono h hr x hl.1, ltL_mono h hr r hl.2⟩
end

theorem Den.mono {ρ ρ' : Nat → Value} {n n' : Nat} (h : n ≤ n') (hr : agree n ρ ρ') {sv : SV} {v : Value} (hd : Den ρ n sv v) : Den ρ' n' sv v := by
  rcases hd with hd | ⟨h1, h2⟩
  · exact .inl hd
  · exact .inr ⟨h1.trans (den_congr hr sv h2).symm, SV.lt_mono h hr sv h2⟩

theorem cell?_ext {R : Nat → Prop} {w w' : World} (h : ∀ b, R b → w'.heap[b]? = w.heap[b]?) {a : Addr} (hr : R a.block) : w'.cell? a = w.cell? a := by
  simp only [World.cell?, h _ hr]

theorem add_block (a : Addr) (n : Nat) : (a.add n).block = a.block := by unfold Addr.add; split <;> rfl

mutual
theorem RdK_mono {R R' : Nat → Prop} {w w' : World} (h : ∀ b, R b → w'.heap[b]? = w.heap[b]?) (hR : ∀ b, R b → R' b) :
    ∀ (k : Kd) (d : D) (u : Value), RdK w R k d u → RdK w' R' k d u
  | .int _, _, _, hh => by simpa [RdK] using hh
  | .bool, _, _, hh => by simpa [RdK] using hh
  | .str, _, _, hh => by simpa [RdK] using hh
  | .raw _, _, _, _ => by simp [RdK]
  | .fnc _, _, _, hh => by simpa [RdK] using hh
  | .sl ks, d, u, hh => by
    simp only [RdK] at hh ⊢
    obtain ⟨a, cap, hu, h1, h2, h3⟩ := hh
    refine ⟨a, cap, hu, h1, h2, fun r hr => ?_⟩
    obtain ⟨ad, ha, hb, hc⟩ := h3 r hr
    exact ⟨ad, ha, hR _ hb, RdKs_mono h hR ks _ _ _ 0 (fun c => (cell?_ext h (by rw [add_block]; exact hb)).symm) hc⟩
theorem RdKs_mono {R R' : Nat → Prop} {w w' : World} (h : ∀ b, R b → w'.heap[b]? = w.heap[b]?) (hR : ∀ b, R b → R' b) :
    ∀ (ks : List Kd) (f : Nat → D) (g g' : Nat → Option Value) (c : Nat), (∀ c, g c = g' c) → RdKs w R ks f g c → RdKs w' R' ks f g' c
  | [], _, _, _, _, _, _ => by simp [RdKs]
  | k :: ks, f, g, g', c, hg, hh => by
    simp only [RdKs] at hh ⊢
    obtain ⟨⟨u, hu, hk⟩, hr⟩ := hh
    exact ⟨⟨u, by rw [← hg]; exact hu, RdK_mono h hR k _ u hk⟩, RdKs_mono h hR ks f g g' (c + 1) hg hr⟩
end

theorem RowOk.mono {R R' : Nat → Prop} {w w' : World} (h : ∀ b, R b → w'.heap[b]? = w.heap[b]?) (hR : ∀ b, R b → R' b) {s : Sl} {cur : Array Value}
    (hh : RowOk w R s cur) : RowOk w' R' s cur := fun r hr => RdKs_mono h hR _ _ _ _ 0 (fun _ => rfl) (hh r hr)

end SX

/-
  SX: each quiet operation does what the executor says.
-/
namespace SX
open Go

/-- Old blocks stay; the streams stay. -/
structure Grow (w w' : World) : Prop where
  os : w'.os = w.os
  tape : w'.tape = w.tape
  output : w'.output = w.output
  size : w.heap.size ≤ w'.heap.size
  keep : ∀ b, b < w.heap.size → w'.heap[b]? = w.heap[b]?

theorem Grow.refl (w : World) : Grow w w := ⟨rfl, rfl, rfl, Nat.le_refl _, fun _ _ => rfl⟩
theorem Grow.trans {a b c : World} (h : Grow a b) (k : Grow b c) : Grow a c :=
  ⟨k.os.trans h.os, k.tape.trans h.tape, k.output.trans h.output, Nat.le_trans h.size k.size, fun x hx => (k.keep x (Nat.lt_of_lt_of_le hx h.size)).trans (h.keep x hx)⟩
theorem Grow.alloc (w : World) (o : Obj) : Grow w (w.alloc o) := ⟨rfl, rfl, rfl, by simp, fun b hb => by rw [World.alloc, Array.getElem?_push, if_neg (by omega)]⟩
theorem Grow.drew (w : World) : Grow w w.drew := ⟨rfl, rfl, rfl, Nat.le_refl _, fun _ _ => rfl⟩
theorem Grow.ext {R : Nat → Prop} {w w' : World} (h : Grow w w') (hR : ∀ b, R b → b < w.heap.size) : Ext R w w' :=
  ⟨h.os, h.tape, h.output, h.size, fun b hb => h.keep b (hR b hb)⟩

def zeroV : Kd → Value
  | .int k => .int k 0
  | .bool => .bool false
  | .str => .string ByteArray.empty
  | .sl _ => .slice none 0 0
  | .fnc f => .func (.func f) ⟨[]⟩ ⟨[]⟩
  | .raw v => v

def isAggD : TypeDesc → Bool
  | .struct _ => true
  | .array _ _ => true
  | _ => false

/-- What the table says of a type holds of the program. -/
structure TyOk (P : Program) (T : Nat → Option Ty) (t : Nat) (ty : Ty) : Prop where
  info : ∃ i z, P.info? t = some i ∧ i.size = ty.ks.length ∧ i.bytes = ty.bytes ∧ i.zero = some z ∧ z.cells.toList = ty.ks.map zeroV
  aggT : ty.agg = true → ∃ d, P.underlying t = some d ∧ isAggD d = true
  aggF : ty.agg = false → ∃ d, P.underlying t = some d ∧ isAggD d = false
  kint : ∀ k, ty.agg = false → ty.ks = [.int k] → P.underlying t = some (.int k)
  kstr : ty.agg = false → ty.ks = [.str] → P.underlying t = some .string
  dsl : ∀ e, ty.d = .slice e → P.underlying t = some (.slice e) ∧ (T e).isSome = true ∧ ∀ ety, T e = some ety → 0 < ety.ks.length ∧ 0 < ety.bytes
  darr : ∀ n e, ty.d = .arr n e → P.underlying t = some (.array n e) ∧ ∀ ety, T e = some ety → ty.ks.length = n * ety.ks.length
  dstr : ∀ fs, ty.d = .struct fs → ∃ fields, P.underlying t = some (.struct fields) ∧ fields.toList.map (fun f => (f.offset, f.type)) = fs ∧
    ∃ places, fields.toList.mapM (fun f => (P.info? f.type).map fun i => (f.offset, i.size)) = some places
  raws : ∀ k ∈ ty.ks, ∀ v, k = .raw v → oneV v = true

def scalC (P : Program) (k : Kd) (t : Nat) : Bool := match k, P.underlying t with
  | .int k, some (.int k') => decide (k = k')
  | .bool, some .bool => true
  | .str, some .string => true
  | _, _ => false

def chkF (P : Program) : List Field → List Kd → Nat → Bool
  | [], [], _ => true
  | f :: fs, k :: ks, i => (f.name != "_") && beqN f.offset i && scalC P k f.type && chkF P fs ks (i + 1)
  | _, _, _ => false

/-- Values of a type are compared cell by cell. -/
def CmpOk (P : Program) (T : Nat → Option Ty) (t : Nat) : Prop := ∀ ty, T t = some ty →
  (ty.agg = false ∧ P.underlying t = some .bool) ∨ (ty.agg = true ∧ P.eqGuardType P.depth t = false ∧
  ((∃ fs, P.underlying t = some (.struct fs) ∧ P.stoodInHeld t = false ∧ chkF P fs.toList ty.ks 0 = true) ∨
  (∃ n e ie, P.underlying t = some (.array n e) ∧ P.info? e = some ie ∧ P.cellsOf e = 1 ∧ ty.ks.length = n ∧ ∀ k ∈ ty.ks, scalC P k e = true)))

/-- What a quiet operation comes to. -/
structure QOk (ρ : Nat → Value) (R : Nat → Prop) (m : Mm) (w : World) (q : QR) (v : Value) (ρ' : Nat → Value) (R' : Nat → Prop) (w' : World) : Prop where
  v : Den ρ' q.next q.sv v
  ag : ∀ i, (i < m.next ∨ q.next ≤ i) → ρ' i = ρ i
  le : m.next ≤ q.next
  grow : Grow w w'
  sub : ∀ b, R b → R' b
  sub' : ∀ b, R' b → R b ∨ (w.heap.size ≤ b ∧ b < w'.heap.size)
  mem : ∀ id r, look q.mem id = some r → (m.next ≤ id ∧ id < q.next) ∧ ResOk ρ' R' w' q.next id r ∧
    (∀ b, ownB (ρ' id) = some b → w.heap.size ≤ b ∧ b < w'.heap.size ∧ ¬ R' b)
  mem1 : ∀ id r id' r', look q.mem id = some r → look q.mem id' = some r' → id ≠ id' → ∀ b, ownB (ρ' id) = some b → ownB (ρ' id') ≠ some b
  ro : ∀ id s, look q.ro id = some s → (m.next ≤ id ∧ id < q.next) ∧ RdK w' R' (.sl s.ks) (.ofL s.n s.f) (ρ' id)

theorem QOk.val {ρ : Nat → Value} {R : Nat → Prop} {m : Mm} {w : World} {p : Option Prop} {sv : SV} {v : Value} (h : Den ρ m.next sv v) :
    QOk ρ R m w ⟨p, sv, [], [], m.next⟩ v ρ R w :=
  ⟨h, fun _ _ => rfl, Nat.le_refl _, Grow.refl w, fun _ h => h, fun _ h => .inl h, fun _ _ h => by simp [look] at h, fun _ _ _ _ h => by simp [look] at h, fun _ _ h => by simp [look] at h⟩

/-- The step of a quiet operation that is no call of a Go function. -/
def Runs (P : Program) (ρe : Operand → Value) (o : Oper) (ρ : Nat → Value) (R : Nat → Prop) (m : Mm) (w : World) (q : QR) : Prop :=
  ∃ v ρ' R' w', (execOp ρe o).run P w = .ok (.value v) w' ∧ QOk ρ R m w q v ρ' R' w'

theorem den_int {ρ : Nat → Value} {n : Nat} {k : IntKind} {x : Int} {v : Value} (h : Den ρ n (.int k x) v) : v = .int k x := by
  rcases h with h | h
  · cases h
  · exact h.1
theorem den_prop {ρ : Nat → Value} {n : Nat} {p : Prop} {v : Value} (h : Den ρ n (.prop p) v) : v = .bool (@decide p (Classical.propDecidable p)) := by
  rcases h with h | h
  · cases h
  · exact h.1
theorem den_bool {ρ : Nat → Value} {n : Nat} {b : Bool} {v : Value} (h : Den ρ n (.bool b) v) : v = .bool b := by
  rcases h with h | h
  · cases h
  · exact h.1
theorem den_str {ρ : Nat → Value} {n : Nat} {s : ByteArray} {v : Value} (h : Den ρ n (.str s) v) : v = .string s := by
  rcases h with h | h
  · cases h
  · exact h.1
theorem den_at {ρ : Nat → Value} {n id off : Nat} {v : Value} (h : Den ρ n (.at id off) v) : v = shiftV (ρ id) off ∧ id < n ∧ oneV (ρ id) = true := by
  rcases h with h | h
  · cases h
  · exact h
theorem den_el {ρ : Nat → Value} {n id es idx off : Nat} {v : Value} (h : Den ρ n (.el id es idx off) v) : v = elp (ρ id) (idx * es + off) ∧ id < n ∧ ∃ a len cap, ρ id = .slice (some a) len cap ∧ idx < len := by
  rcases h with h | h
  · cases h
  · exact h
theorem den_agg {ρ : Nat → Value} {n : Nat} {l : List SV} {v : Value} (h : Den ρ n (.agg l) v) : v = .agg (denL ρ l).toArray ∧ ltL ρ n l := by
  rcases h with h | h
  · cases h
  · exact h
theorem den_tup {ρ : Nat → Value} {n : Nat} {l : List SV} {v : Value} (h : Den ρ n (.tup l) v) : v = .tuple (denL ρ l).toArray ∧ ltL ρ n l := by
  rcases h with h | h
  · cases h
  · exact h
theorem den_raw {ρ : Nat → Value} {n : Nat} {x v : Value} (h : Den ρ n (.raw x) v) : v = x := by
  rcases h with h | h
  · cases h
  · exact h.1
theorem Den.mk {ρ : Nat → Value} {n : Nat} {sv : SV} {v : Value} (h : v = den ρ sv) (hl : sv.lt ρ n) : Den ρ n sv v := .inr ⟨h, hl⟩
theorem den_svOf (ρ : Nat → Value) (n : Nat) (v : Value) : Den ρ n (svOf v) v := by
  refine .inr ⟨?_, ?_⟩ <;> cases v <;> simp [svOf, den, SV.lt]

theorem dec_eq (p q : Prop) [Decidable p] (h : p ↔ q) : decide p = @decide q (Classical.propDecidable q) := by
  by_cases hp : p <;> simp [hp, ← h]

theorem wrap_of_inR {k : IntKind} {n : Int} (h1 : k.min ≤ n) (h2 : n ≤ k.max) : k.wrap n = n := by
  cases k <;> simp [IntKind.min, IntKind.max, IntKind.wrap, IntKind.signed, IntKind.bits] at * <;> omega

section
variable {P : Program} {E : Env} (hA : E.A = Ar.std) {ρ : Nat → Value} {R : Nat → Prop} {m : Mm} {w : World} {q : QR}
include hA

theorem arith_ok {ρe : Operand → Value} {o : Oper} {k : IntKind} {r : Int} (hr : arith E.A m k r = some q) (hp : ∀ p, q.pre = some p → p)
    (hv : (execOp ρe o).run P w = .ok (.value (.int k (k.wrap r))) w) : Runs P ρe o ρ R m w q := by
  unfold arith at hr
  split at hr
  · simp only [q1, Option.some.injEq] at hr
    have := hp _ (by rw [← hr])
    rw [hA] at this
    simp only [Ar.std] at this
    rw [wrap_of_inR this.1 this.2] at hv
    subst hr
    exact ⟨_, _, _, _, hv, QOk.val (Den.mk rfl trivial)⟩
  · simp only [q0, Option.some.injEq] at hr
    subst hr
    refine ⟨_, _, _, _, hv, QOk.val (Den.mk ?_ trivial)⟩
    rw [hA]
    rfl

omit hA in
theorem runs_val {ρe : Operand → Value} {o : Oper} {p : Option Prop} {sv : SV} (hq : q = ⟨p, sv, [], [], m.next⟩) {v : Value} (h : v = den ρ sv) (hl : sv.lt ρ m.next)
    (hv : (execOp ρe o).run P w = .ok (.value v) w) : Runs P ρe o ρ R m w q := by
  subst hq
  exact ⟨_, _, _, _, hv, QOk.val (Den.mk h hl)⟩

omit hA in
theorem scal_und {k : Kd} {t : Nat} (h : scalC P k t = true) : ∃ d, P.underlying t = some d ∧ isAggD d = false := by
  unfold scalC at h
  split at h
  · exact ⟨_, by assumption, rfl⟩
  · exact ⟨_, by assumption, rfl⟩
  · exact ⟨_, by assumption, rfl⟩
  · cases h

omit hA in
theorem scal_part {k : Kd} {t off : Nat} {cs : Array Value} {u : Value} (h : scalC P k t = true) (hc : cs[off]? = some u) : (Go.part t cs off).run P w = .ok u w := by
  obtain ⟨d, hd, hag⟩ := scal_und h
  have h1 : (isAgg t).run P w = .ok (isAggD d) w := by
    simp only [isAgg, Sem.run_bind, run_underlying hd, Result.andThen_ok]
    cases d <;> rfl
  simp only [Go.part, Sem.run_bind, h1, Result.andThen_ok]
  cases d <;> simp_all [isAggD]

omit hA in
theorem asP_ok {sx : SV} {p : Prop} (h : asP Ar.std sx = some p) : den ρ sx = .bool (@decide p (Classical.propDecidable p)) := by
  unfold asP at h
  split at h
  · simp only [Option.some.injEq] at h
    subst h; rfl
  · rename_i b
    simp only [Option.some.injEq, Ar.std] at h
    subst h
    simp only [den]
    congr 1
    cases b
    · exact (@decide_eq_false _ (Classical.propDecidable _) (by simp)).symm
    · exact (@decide_eq_true _ (Classical.propDecidable _) rfl).symm
  · cases h

omit hA in
theorem eqC_ok {k : Kd} {t : Nat} {sx sy : SV} {p : Prop} (hs : scalC P k t = true) (h : eqC Ar.std k sx sy = some p) (d : Nat) :
    (Op.equalIn (d + 1) t (den ρ sx) (den ρ sy)).run P w = .ok (@decide p (Classical.propDecidable p)) w := by
  unfold scalC at hs
  split at hs
  · rename_i k0 k' hu
    unfold eqC at h
    split at h
    · split at h
      · rename_i hk
        simp only [Option.some.injEq, Ar.std] at h
        simp only [Bool.and_eq_true, decide_eq_true_eq] at hk
        subst h
        obtain ⟨rfl, rfl⟩ := hk
        simp only [den]
        rw [run_equalIn_int w d t _ _ _ _ hu]
        congr 1
        rw [Bool.eq_iff_iff]; simp
      · cases h
    all_goals first | (cases h; done) | simp_all
  · rename_i hu
    simp only [eqC] at h
    split at h
    · rename_i p0 q0 hp hq
      simp only [Option.some.injEq, Ar.std] at h
      subst h
      rw [asP_ok hp, asP_ok hq, run_equalIn_bool' w d t _ _ hu]
      congr 1
      rw [Bool.eq_iff_iff, beq_iff_eq, Bool.eq_iff_iff]; simp
    · cases h
  · rename_i hu
    unfold eqC at h
    split at h
    · simp_all
    · simp_all
    · simp only [Option.some.injEq, Ar.std] at h
      subst h
      simp only [den]
      rw [run_equalIn_string w d t _ _ hu]
      congr 1
      rw [Bool.eq_iff_iff]; simp
    · cases h
  · cases hs

omit hA in
theorem eqC_all {k : Kd} {x y : SV} {_p : Prop} {ks : List Kd} {xs ys : List SV} {q : Prop} (h : eqCs Ar.std (k :: ks) (x :: xs) (y :: ys) = some q) : ∃ p, eqC Ar.std k x y = some p ∧
    ((ks = [] ∧ xs = [] ∧ ys = [] ∧ q = p) ∨ ∃ r, eqCs Ar.std ks xs ys = some r ∧ q = (p ∧ r)) := by
  unfold eqCs at h
  split at h
  · rename_i h1 h2 h3
    cases h1; cases h2; cases h3
    exact ⟨q, h, .inl ⟨rfl, rfl, rfl, rfl⟩⟩
  · rename_i h1 h2 h3
    cases h1; cases h2; cases h3
    split at h
    · rename_i p r hp hr
      simp only [Option.some.injEq, Ar.std] at h
      exact ⟨p, hp, .inr ⟨r, hr, h.symm⟩⟩
    · cases h
  · cases h

omit hA in
theorem eqFields_ok {xs ys : Array Value} {d : Nat} : ∀ (fs : List Field) (ks : List Kd) (i : Nat) (a b : List SV) {p : Prop}, chkF P fs ks i = true → xs.toList.drop i = denL ρ a → ys.toList.drop i = denL ρ b → eqCs Ar.std ks a b = some p →
    (Op.eqFields (d + 1) xs ys fs).run P w = .ok (@decide p (Classical.propDecidable p)) w
  | [], _ :: _, _, _, _, _, h, _, _, _ => by simp [chkF] at h
  | _ :: _, [], _, _, _, _, h, _, _, _ => by simp [chkF] at h
  | [], [], _, a, b, _, _, _, _, h => by simp [eqCs] at h
  | f :: fs, k :: ks, i, [], b, _, _, _, _, h => by simp [eqCs] at h
  | f :: fs, k :: ks, i, _ :: _, [], _, _, _, _, h => by simp [eqCs] at h
  | f :: fs, k :: ks, i, x :: a, y :: b, p, hc, ha, hb, h => by
    simp only [chkF, Bool.and_eq_true, beqN_iff, bne_iff_ne] at hc
    obtain ⟨⟨⟨h1, h2⟩, h3⟩, h4⟩ := hc
    have get : ∀ {zs : Array Value} {z : SV} {l : List SV}, zs.toList.drop i = denL ρ (z :: l) → zs[i]? = some (den ρ z) ∧ zs.toList.drop (i + 1) = denL ρ l := fun {zs z l} hz => by
      simp only [denL] at hz
      have e : (zs.toList.drop i)[0]? = some (den ρ z) := by rw [hz]; rfl
      rw [List.getElem?_drop] at e
      refine ⟨by simpa using e, ?_⟩
      rw [← List.drop_drop, hz]; rfl
    obtain ⟨gx, ex⟩ := get ha
    obtain ⟨gy, ey⟩ := get hb
    obtain ⟨p0, hp0, hrest⟩ := eqC_all (_p := p) h
    have step : (Op.eqFields (d + 1) xs ys (f :: fs)).run P w = if @decide p0 (Classical.propDecidable p0) = true then (Op.eqFields (d + 1) xs ys fs).run P w else .ok false w := by
      have k1 := eqC_ok (ρ := ρ) (w := w) h3 hp0 d
      have k2 : (Go.part f.type xs f.offset).run P w = .ok (den ρ x) w := by rw [h2]; exact scal_part h3 gx
      have k3 : (Go.part f.type ys f.offset).run P w = .ok (den ρ y) w := by rw [h2]; exact scal_part h3 gy
      simp only [Op.eqFields, if_pos h1, Sem.run_bind]
      rw [k2, Result.andThen_ok, k3, Result.andThen_ok, k1, Result.andThen_ok]
      by_cases hp : p0 <;> simp [hp]
    rw [step]
    rcases hrest with ⟨rfl, rfl, rfl, rfl⟩ | ⟨r, hr, rfl⟩
    · cases fs with
      | cons _ _ => simp [chkF] at h4
      | nil => by_cases hp : p <;> simp [hp, Op.eqFields]
    · rw [eqFields_ok fs ks (i + 1) a b h4 ex ey hr]
      by_cases hp : p0 <;> simp [hp]

omit hA in
theorem eqItems_ok {xs ys : Array Value} {d e : Nat} : ∀ (m i : Nat) (ks : List Kd) (a b : List SV) {p : Prop}, ks.length = m → (∀ k ∈ ks, scalC P k e = true) → xs.toList.drop i = denL ρ a → ys.toList.drop i = denL ρ b → eqCs Ar.std ks a b = some p →
    (Op.eqItems (d + 1) e 1 xs ys (List.range' i m)).run P w = .ok (@decide p (Classical.propDecidable p)) w
  | m, i, [], a, b, _, _, _, _, _, h => by simp [eqCs] at h
  | m, i, k :: ks, [], b, _, _, _, _, _, h => by simp [eqCs] at h
  | m, i, k :: ks, _ :: _, [], _, _, _, _, _, h => by simp [eqCs] at h
  | 0, i, k :: ks, _ :: _, _ :: _, _, hm, _, _, _, _ => by simp at hm
  | m + 1, i, k :: ks, x :: a, y :: b, p, hm, hc, ha, hb, h => by
    have h3 := hc k (by simp)
    have get : ∀ {zs : Array Value} {z : SV} {l : List SV}, zs.toList.drop i = denL ρ (z :: l) → zs[i]? = some (den ρ z) ∧ zs.toList.drop (i + 1) = denL ρ l := fun {zs z l} hz => by
      simp only [denL] at hz
      have e : (zs.toList.drop i)[0]? = some (den ρ z) := by rw [hz]; rfl
      rw [List.getElem?_drop] at e
      refine ⟨by simpa using e, ?_⟩
      rw [← List.drop_drop, hz]; rfl
    obtain ⟨gx, ex⟩ := get ha
    obtain ⟨gy, ey⟩ := get hb
    obtain ⟨p0, hp0, hrest⟩ := eqC_all (_p := p) h
    have step : (Op.eqItems (d + 1) e 1 xs ys (List.range' i (m + 1))).run P w = if @decide p0 (Classical.propDecidable p0) = true then (Op.eqItems (d + 1) e 1 xs ys (List.range' (i + 1) m)).run P w else .ok false w := by
      have k1 := eqC_ok (ρ := ρ) (w := w) h3 hp0 d
      have k2 : (Go.part e xs i).run P w = .ok (den ρ x) w := scal_part h3 gx
      have k3 : (Go.part e ys i).run P w = .ok (den ρ y) w := scal_part h3 gy
      simp only [List.range'_succ, Op.eqItems, Nat.mul_one, Sem.run_bind]
      rw [k2, Result.andThen_ok, k3, Result.andThen_ok, k1, Result.andThen_ok]
      by_cases hp : p0 <;> simp [hp]
    rw [step]
    rcases hrest with ⟨rfl, rfl, rfl, rfl⟩ | ⟨r, hr, rfl⟩
    · have : m = 0 := by simpa using hm.symm
      subst this
      by_cases hp : p <;> simp [hp, Op.eqItems]
    · rw [eqItems_ok m (i + 1) ks a b (by simpa using hm) (fun k hk => hc k (by simp [hk])) ex ey hr]
      by_cases hp : p0 <;> simp [hp]

omit hA in
theorem eqQ_ok {ρe : Operand → Value} {o : Oper} {op : BinOp} {t ty : Nat} {x y : Operand} (ho : o.op = .binOp op t x y ty) {p : Prop} (hq : eqQ Ar.std m op p = some q)
    (h1 : (binOp .eql t (ρe x) (ρe y)).run P w = .ok (.bool (@decide p (Classical.propDecidable p))) w) (h2 : (binOp .neq t (ρe x) (ρe y)).run P w = .ok (.bool (!@decide p (Classical.propDecidable p))) w)
    (hg : ∀ op, (eqGuard op t x y (ρe x) (ρe y)).run P w = .ok () w) : Runs P ρe o ρ R m w q := by
  unfold eqQ at hq
  split at hq
  · simp only [q0, Option.some.injEq] at hq
    refine runs_val hq.symm rfl trivial ?_
    simp only [execOp, ho, Sem.run_bind, hg, Result.andThen_ok, h1, Sem.run_pure]
    rfl
  · simp only [q0, Option.some.injEq, Ar.std] at hq
    refine runs_val hq.symm rfl trivial ?_
    simp only [execOp, ho, Sem.run_bind, hg, Result.andThen_ok, h2, Sem.run_pure, den]
    congr 3
    by_cases hp : p <;> simp [hp]
  · cases hq

theorem xeq_ok {ρe : Operand → Value} {o : Oper} {op : BinOp} {t ty : Nat} {x y : Operand} (ho : o.op = .binOp op t x y ty) {sx sy : SV}
    (hx : Den ρ m.next sx (ρe x)) (hy : Den ρ m.next sy (ρe y)) (hcmp : ∀ t, E.cmp t = true → CmpOk P E.T t) (hq : xeq E m op t sx sy = some q) : Runs P ρe o ρ R m w q := by
  unfold xeq at hq
  split at hq
  · rename_i ks bt dd hc hT
    split at hq
    · rename_i a b
      split at hq
      · rename_i p hp
        rw [hA] at hp hq
        obtain ⟨ex, _⟩ := den_agg hx
        obtain ⟨ey, _⟩ := den_agg hy
        rcases hcmp t hc _ hT with ⟨h0, _⟩ | ⟨_, hg, h⟩
        · cases h0
        · have key : (Op.equalIn 10000 t (ρe x) (ρe y)).run P w = .ok (@decide p (Classical.propDecidable p)) w := by
            rw [ex, ey]
            rcases h with ⟨fs, hu, hs, hf⟩ | ⟨n, e, ie, hu, hi, he, hn, hk⟩
            · have hfo : P.fieldsOf t = fs := by simp [Program.fieldsOf, hu]
              rw [run_equalIn_struct w 9999 t _ _ (by rw [hfo]; exact hu) hs, hfo]
              exact eqFields_ok (ρ := ρ) fs.toList ks 0 a b hf (by simp) (by simp) hp
            · rw [run_equalIn_array w 9999 _ _ hu hi, he, List.range_eq_range']
              exact eqItems_ok (ρ := ρ) n 0 ks a b hn hk (by simp) (by simp) hp
          refine eqQ_ok ho hq ?_ ?_ fun op => ?_
          · rw [ex, ey] at key ⊢
            rw [run_eql_struct (w := w), key, Result.andThen_ok]
          · rw [ex, ey] at key ⊢
            rw [run_neq_struct (w := w), key, Result.andThen_ok]
          · rw [ex, ey]
            exact run_eqGuard_agg (w := w) op t x y _ _ hg
      · cases hq
    · cases hq
  · rename_i ks bt dd hc hT
    split at hq
    · rename_i p0 q0 hp0 hq0
      rw [hA] at hp0 hq0 hq
      have ea := asP_ok (ρ := ρ) hp0
      have eb := asP_ok (ρ := ρ) hq0
      rcases hcmp t hc _ hT with ⟨_, hu⟩ | ⟨h0, _⟩
      · have one : ∀ {s : SV} {v : Value} {p : Prop}, Den ρ m.next s v → asP Ar.std s = some p → v = den ρ s := by
          intro s v p hd h0
          rcases hd with hd | ⟨hd, _⟩
          · subst hd
            simp [asP] at h0
          · exact hd
        have ex := one hx hp0
        have ey := one hy hq0
        rw [ea] at ex
        rw [eb] at ey
        refine eqQ_ok ho hq ?_ ?_ fun op => ?_
        · rw [ex, ey, run_eql_bool w t _ _ hu]
          simp only [Ar.std]
          congr 2
          rw [Bool.eq_iff_iff, beq_iff_eq, Bool.eq_iff_iff]; simp only [decide_eq_true_eq]
          exact (@decide_eq_true_iff (p0 ↔ q0) (Classical.propDecidable _)).symm
        · rw [ex, ey, run_neq_bool w t _ _ hu]
          simp only [Ar.std]
          congr 3
          rw [Bool.eq_iff_iff, beq_iff_eq, Bool.eq_iff_iff]; simp only [decide_eq_true_eq]
          exact (@decide_eq_true_iff (p0 ↔ q0) (Classical.propDecidable _)).symm
        · rw [ex, ey]
          cases op <;> simp [eqGuard]
      · cases h0
    · cases hq
  · cases hq

theorem bin_ok {ρe : Operand → Value} {o : Oper} {op : BinOp} {t ty : Nat} {x y : Operand} (ho : o.op = .binOp op t x y ty) {sx sy : SV}
    (hx : Den ρ m.next sx (ρe x)) (hy : Den ρ m.next sy (ρe y)) (hcmp : ∀ t, E.cmp t = true → CmpOk P E.T t) (hq : xbin E m op t sx sy = some q) (hp : ∀ p, q.pre = some p → p) :
    Runs P ρe o ρ R m w q := by
  unfold xbin at hq
  split at hq
  · rename_i k a k' b
    have hx' := den_int hx
    have hy' := den_int hy
    have key : ∀ v, (binOp op t (.int k a) (.int k' b)).run P w = .ok v w → (execOp ρe o).run P w = .ok (.value v) w := by
      intro v hv
      simp only [execOp, ho, hx', hy']
      cases op <;> simp [eqGuard, hv]
    split at hq
    · simp only [q1, Option.some.injEq] at hq
      have := hp _ (by rw [← hq])
      rw [hA] at this hq
      simp only [Ar.std] at this hq
      exact runs_val hq.symm rfl trivial (key _ (by simp [binOp, Op.shift, Int.not_lt.2 this, den]))
    · simp only [q1, Option.some.injEq] at hq
      have := hp _ (by rw [← hq])
      rw [hA] at this hq
      simp only [Ar.std] at this hq
      exact runs_val hq.symm rfl trivial (key _ (by simp [binOp, Op.shift, Int.not_lt.2 this, den]))
    · rename_i h1 h2
      split at hq
      · cases hq
      · rename_i hk
        have hk : k = k' := by simpa using hk
        subst hk
        split at hq
        · rw [hA] at hq
          exact arith_ok hA (by rw [hA]; exact hq) hp (key _ (by simp [binOp, Op.intArith, Ar.std]))
        · rw [hA] at hq
          exact arith_ok hA (by rw [hA]; exact hq) hp (key _ (by simp [binOp, Op.intArith, Ar.std]))
        · rw [hA] at hq
          exact arith_ok hA (by rw [hA]; exact hq) hp (key _ (by simp [binOp, Op.intArith, Ar.std]))
        · split at hq
          · simp only [q1, Option.some.injEq] at hq
            have := hp _ (by rw [← hq])
            rw [hA] at this hq
            simp only [Ar.std] at this hq
            exact runs_val hq.symm rfl trivial (key _ (by simp [binOp, Op.intDiv, this.1, den, wrap_of_inR this.2.1 this.2.2]))
          · simp only [q1, Option.some.injEq] at hq
            have := hp _ (by rw [← hq])
            rw [hA] at this hq
            simp only [Ar.std] at this hq
            exact runs_val hq.symm rfl trivial (key _ (by simp [binOp, Op.intDiv, this, den]))
        · simp only [q1, Option.some.injEq] at hq
          have := hp _ (by rw [← hq])
          rw [hA] at this hq
          simp only [Ar.std] at this hq
          exact runs_val hq.symm rfl trivial (key _ (by simp [binOp, Op.intDiv, this, den]))
        all_goals simp only [q0, Option.some.injEq, hA, Ar.std, reduceCtorEq] at hq
        all_goals refine runs_val hq.symm rfl trivial (key _ ?_)
        all_goals first
            | (simp only [binOp, Op.intCmp, den, Sem.run_pure, ne_eq, not_true_eq_false, if_false]; congr 2; rw [Bool.eq_iff_iff]; simp [bne]; done)
            | (simp [binOp, Op.intBits, den, bitI]; done)
  · rename_i a b
    have hx' := den_str hx
    have hy' := den_str hy
    have key : ∀ v, (binOp op t (.string a) (.string b)).run P w = .ok v w → (execOp ρe o).run P w = .ok (.value v) w := by
      intro v hv
      simp only [execOp, ho, hx', hy']
      cases op <;> simp [eqGuard, hv]
    split at hq
    all_goals simp only [q0, Option.some.injEq, hA, Ar.std, reduceCtorEq] at hq
    all_goals refine runs_val hq.symm rfl trivial (key _ ?_)
    all_goals (simp only [binOp, Op.stringOp, den, Sem.run_pure]; congr 2; rw [Bool.eq_iff_iff]; simp)
  · exact xeq_ok hA ho hx hy hcmp hq

theorem un_ok {ρe : Operand → Value} {o : Oper} {op : UnOp} {t : Nat} {x : Operand} (ho : o.op = .unOp op t x) {sx : SV}
    (hx : Den ρ m.next sx (ρe x)) (hq : xun E m op sx = some q) (hp : ∀ p, q.pre = some p → p) : Runs P ρe o ρ R m w q := by
  unfold xun at hq
  split at hq
  · have hx' := den_int hx
    rw [hA] at hq
    exact arith_ok hA (by rw [hA]; exact hq) hp (by simp [execOp, ho, hx', Op.unary, Op.intArith, Ar.std])
  · have hx' := den_prop hx
    simp only [q0, Option.some.injEq, hA, Ar.std] at hq
    refine runs_val hq.symm rfl trivial ?_
    simp only [execOp, ho, hx', Op.unary, den, Sem.run_pure, Sem.run_bind, Result.andThen_ok]
    congr 3
    rw [Bool.eq_iff_iff]; simp
  · have hx' := den_bool hx
    simp only [q0, Option.some.injEq] at hq
    exact runs_val hq.symm rfl trivial (by simp [execOp, ho, hx', Op.unary, den])
  · cases hq

theorem conv_ok (hT : ∀ t ty, E.T t = some ty → TyOk P E.T t ty) {ρe : Operand → Value} {o : Oper} {s t : Nat} {x : Operand} (ho : o.op = .convert s t x) {sx : SV}
    (hx : Den ρ m.next sx (ρe x)) (hq : xconv E m s t sx = some q) (hp : ∀ p, q.pre = some p → p) : Runs P ρe o ρ R m w q := by
  unfold xconv at hq
  split at hq
  · rename_i sty k b d k' n hst ht
    have hs : ∃ ds, P.underlying s = some ds := by
      cases hag : sty.agg with
      | true => obtain ⟨d, hd, _⟩ := (hT _ _ hst).aggT hag; exact ⟨d, hd⟩
      | false => obtain ⟨d, hd, _⟩ := (hT _ _ hst).aggF hag; exact ⟨d, hd⟩
    have hx' := den_int hx
    have hu := (hT _ _ ht).kint k rfl rfl
    obtain ⟨ds, hds⟩ := hs
    have key : (execOp ρe o).run P w = .ok (.value (.int k (k.wrap n))) w := by
      simp [execOp, ho, hx', convert, run_underlying hds, run_underlying hu, Conv.intToInt]
    split at hq
    · simp only [q1, Option.some.injEq] at hq
      have := hp _ (by rw [← hq])
      rw [hA] at this
      simp only [Ar.std] at this
      rw [wrap_of_inR this.1 this.2] at key
      exact runs_val hq.symm rfl trivial key
    · simp only [q0, Option.some.injEq, hA, Ar.std] at hq
      exact runs_val hq.symm rfl trivial key
  · cases hq
end
end SX

/-
  SX: the quiet operations on memory.
-/
namespace SX
open Go

theorem add_add (a : Addr) (n k : Nat) : (a.add n).add k = a.add (n + k) := by
  unfold Addr.add
  by_cases hn : n = 0 <;> by_cases hk : k = 0 <;> simp_all [Nat.add_assoc]

theorem add0 (b n : Nat) : (⟨b, 0, none⟩ : Addr).add n = ⟨b, n, none⟩ := by
  unfold Addr.add; split <;> simp_all

theorem denL_length (ρ : Nat → Value) : ∀ l : List SV, (denL ρ l).length = l.length
  | [] => rfl
  | x :: r => by simp [denL, denL_length ρ r]
theorem denL_append (ρ : Nat → Value) : ∀ l l' : List SV, denL ρ (l ++ l') = denL ρ l ++ denL ρ l'
  | [], _ => rfl
  | x :: r, l' => by simp [denL, denL_append ρ r l']
theorem denL_get (ρ : Nat → Value) : ∀ (l : List SV) (i : Nat), (denL ρ l)[i]? = (l[i]?).map (den ρ)
  | [], i => by simp [denL]
  | x :: r, 0 => by simp [denL]
  | x :: r, i + 1 => by simp [denL, denL_get ρ r i]
theorem denL_map (ρ : Nat → Value) : ∀ l : List SV, denL ρ l = l.map (den ρ)
  | [] => rfl
  | x :: r => by simp [denL, denL_map ρ r]
theorem ltL_iff (ρ : Nat → Value) (n : Nat) : ∀ l : List SV, ltL ρ n l ↔ ∀ x ∈ l, x.lt ρ n
  | [] => by simp [ltL]
  | x :: r => by simp [ltL, ltL_iff ρ n r]

theorem pack_ok {ρ : Nat → Value} {n : Nat} {agg : Bool} {l : List SV} {v : SV} (h : pack agg l = some v) (hl : ltL ρ n l) :
    v.lt ρ n ∧ ((agg = true ∧ den ρ v = .agg (denL ρ l).toArray) ∨ (agg = false ∧ ∃ x, l = [x] ∧ v = x)) := by
  unfold pack at h
  split at h
  · simp only [Option.some.injEq] at h; subst h; exact ⟨hl, .inl ⟨rfl, rfl⟩⟩
  · split at h
    · simp only [Option.some.injEq] at h; subst h
      exact ⟨hl.1, .inr ⟨rfl, _, rfl, rfl⟩⟩
    · cases h

theorem run_isAgg' {P : Program} {t : Nat} {d : TypeDesc} (h : P.underlying t = some d) (w : World) : (isAgg t).run P w = .ok (isAggD d) w := by
  simp only [isAgg, Sem.run_bind, run_underlying h, Result.andThen_ok]
  cases d <;> rfl
theorem run_sizeOf' {P : Program} {t : Nat} {i : TypeInfo} (h : P.info? t = some i) (w : World) : (Go.sizeOf t).run P w = .ok i.size w := by
  simp [Go.sizeOf, typeInfo, h]
theorem run_zeroValue' {P : Program} {t : Nat} {i : TypeInfo} {z : Value} (h : P.info? t = some i) (hz : i.zero = some z) (w : World) : (zeroValue t).run P w = .ok z w := by
  simp [zeroValue, typeInfo, h, hz]

/-- A variable is loaded: its cells are there. -/
theorem run_loadVar_cells {P : Program} {T : Nat → Option Ty} {t : Nat} {ty : Ty} (hty : TyOk P T t ty) (w : World) (a : Addr) (cs : List Value) (hl : cs.length = ty.ks.length)
    (h : ∀ j v, cs[j]? = some v → w.cell? (a.add j) = some v) :
    (ty.agg = true → (loadVar t a).run P w = .ok (.agg cs.toArray) w) ∧ (ty.agg = false → ∀ x, cs = [x] → (loadVar t a).run P w = .ok x w) := by
  obtain ⟨i, z, hi, hs, _, _, _⟩ := hty.info
  constructor
  · intro hag
    obtain ⟨d, hd, hd'⟩ := hty.aggT hag
    simp only [loadVar, Sem.run_bind, run_isAgg' hd, Result.andThen_ok, hd', if_true, run_sizeOf' hi, hs, ← hl, run_loadCells_list w a cs h, Sem.run_pure]
  · intro hag x hx
    obtain ⟨d, hd, hd'⟩ := hty.aggF hag
    have h0 := h 0 x (by simp [hx])
    simp only [loadVar, Sem.run_bind, run_isAgg' hd, Result.andThen_ok, hd', Bool.false_eq_true, if_false, run_load]
    have : a.add 0 = a := by simp [Addr.add]
    rw [this] at h0
    simp [h0]

/-- The reading of a row's cells, from a place on. -/
theorem RdKs_drop {w : World} {R : Nat → Prop} : ∀ (n : Nat) (ks : List Kd) (f : Nat → D) (g : Nat → Option Value) (c : Nat), RdKs w R ks f g c → RdKs w R (ks.drop n) f g (c + n)
  | 0, ks, f, g, c, h => h
  | n + 1, [], f, g, c, h => by simp [RdKs]
  | n + 1, k :: ks, f, g, c, h => by
    simp only [RdKs] at h
    have := RdKs_drop n ks f g (c + 1) h.2
    simpa [Nat.add_assoc, Nat.add_comm 1 n] using this
theorem RdKs_take {w : World} {R : Nat → Prop} : ∀ (n : Nat) (ks : List Kd) (f : Nat → D) (g : Nat → Option Value) (c : Nat), RdKs w R ks f g c → RdKs w R (ks.take n) f g c
  | 0, ks, f, g, c, h => by simp [RdKs]
  | n + 1, [], f, g, c, h => by simp [RdKs]
  | n + 1, k :: ks, f, g, c, h => by
    simp only [RdKs, List.take_succ_cons] at h ⊢
    exact ⟨h.1, RdKs_take n ks f g (c + 1) h.2⟩

def updV (ρ : Nat → Value) (id : Nat) (v : Value) : Nat → Value := fun i => if i = id then v else ρ i
theorem updV_same (ρ : Nat → Value) (id : Nat) (v : Value) : updV ρ id v id = v := by simp [updV]
theorem updV_ne (ρ : Nat → Value) {id i : Nat} (v : Value) (h : i ≠ id) : updV ρ id v i = ρ i := by simp [updV, h]

theorem look_append {α : Type} : ∀ (l l' : List (Nat × α)) (t : Nat), look (l ++ l') t = (match look l t with | some x => some x | none => look l' t)
  | [], l', t => by simp [look]
  | (k, x) :: r, l', t => by
    simp only [List.cons_append, look]
    split
    · rfl
    · exact look_append r l' t

/-- A row's cells as symbolic values: the names of its slices are given their values. -/
theorem mkCells_ok {w : World} {R : Nat → Prop} : ∀ (ks : List Kd) (f : Nat → D) (c nx : Nat) (g : Nat → Option Value) (ρ : Nat → Value) {vs : List SV} {l : List (Nat × Sl)} {nx' : Nat},
    mkCells Ar.std ks f c nx = some (vs, l, nx') → RdKs w R ks f g c →
    ∃ ρ', nx ≤ nx' ∧ (∀ i, (i < nx ∨ nx' ≤ i) → ρ' i = ρ i) ∧ ltL ρ' nx' vs ∧ vs.length = ks.length ∧ (∀ j, j < ks.length → g (c + j) = (denL ρ' vs)[j]?) ∧
      (∀ x ∈ vs, oneC x = true) ∧
      (∀ id s, look l id = some s → (nx ≤ id ∧ id < nx') ∧ RdK w R (.sl s.ks) (.ofL s.n s.f) (ρ' id))
  | [], f, c, nx, g, ρ, vs, l, nx', h, _ => by
    simp only [mkCells, Option.some.injEq, Prod.mk.injEq] at h
    obtain ⟨rfl, rfl, rfl⟩ := h
    exact ⟨ρ, Nat.le_refl _, fun _ _ => rfl, trivial, rfl, fun j hj => absurd hj (Nat.not_lt_zero _), by simp, fun id s h => by simp [look] at h⟩
  | kd :: r, f, c, nx, g, ρ, vs, l, nx', h, hr => by
    simp only [mkCells] at h
    split at h
    · rename_i v l1 nx1 hk
      split at h
      · rename_i vs' ls nx2 hks
        simp only [Option.some.injEq, Prod.mk.injEq] at h
        obtain ⟨rfl, rfl, rfl⟩ := h
        simp only [RdKs] at hr
        obtain ⟨⟨u, hu, hku⟩, hrest⟩ := hr
        -- the first cell
        have first : ∃ ρ1, nx ≤ nx1 ∧ (∀ i, (i < nx ∨ nx1 ≤ i) → ρ1 i = ρ i) ∧ v.lt ρ1 nx1 ∧ u = den ρ1 v ∧ oneC v = true ∧
            (∀ id s, look l1 id = some s → (nx ≤ id ∧ id < nx1) ∧ RdK w R (.sl s.ks) (.ofL s.n s.f) (ρ1 id)) := by
          unfold mkCell at hk
          cases kd with
          | int k =>
            simp only [Option.some.injEq, Prod.mk.injEq] at hk
            obtain ⟨rfl, rfl, rfl⟩ := hk
            exact ⟨ρ, Nat.le_refl _, fun _ _ => rfl, trivial, (by simp only [RdK] at hku; exact hku), rfl, fun id s h => by simp [look] at h⟩
          | bool =>
            simp only [Option.some.injEq, Prod.mk.injEq] at hk
            obtain ⟨rfl, rfl, rfl⟩ := hk
            exact ⟨ρ, Nat.le_refl _, fun _ _ => rfl, trivial, (by simp only [RdK] at hku; exact hku), rfl, fun id s h => by simp [look] at h⟩
          | str =>
            simp only [Option.some.injEq, Prod.mk.injEq] at hk
            obtain ⟨rfl, rfl, rfl⟩ := hk
            exact ⟨ρ, Nat.le_refl _, fun _ _ => rfl, trivial, (by simp only [RdK] at hku; exact hku), rfl, fun id s h => by simp [look] at h⟩
          | sl ks =>
            simp only [Option.some.injEq, Prod.mk.injEq] at hk
            obtain ⟨rfl, rfl, rfl⟩ := hk
            have hone : oneV u = true := by
              simp only [RdK] at hku
              obtain ⟨a, cap, hu', _⟩ := hku
              rw [hu']; rfl
            refine ⟨updV ρ nx u, Nat.le_succ _, fun i hi => updV_ne _ _ (by omega), ⟨Nat.lt_succ_self _, by rw [updV_same]; exact hone⟩, ?_, rfl, ?_⟩
            · simp only [den, updV_same]
              simp only [RdK] at hku
              obtain ⟨a, cap, hu', _⟩ := hku
              rw [hu']; rfl
            · intro id s hs
              simp only [look] at hs
              split at hs
              · rename_i hb
                have hid : nx = id := by simpa using hb
                subst hid
                simp only [Option.some.injEq] at hs
                subst hs
                refine ⟨⟨Nat.le_refl _, Nat.lt_succ_self _⟩, ?_⟩
                rw [updV_same]
                simp only [RdK, D.ofL, D.n, D.row] at hku ⊢
                exact hku
              · cases hs
          | fnc f =>
            simp only [Option.some.injEq, Prod.mk.injEq] at hk
            obtain ⟨rfl, rfl, rfl⟩ := hk
            exact ⟨ρ, Nat.le_refl _, fun _ _ => rfl, trivial, (by simp only [RdK] at hku; exact hku), rfl, fun id s h => by simp [look] at h⟩
          | raw z => cases hk
        obtain ⟨ρ1, hle1, hag1, hlt1, hden1, hone1, hro1⟩ := first
        obtain ⟨ρ2, hle2, hag2, hlt2, hlen2, hden2, hone2, hro2⟩ := mkCells_ok r f (c + 1) nx1 g ρ1 hks hrest
        have ag : agree nx1 ρ1 ρ2 := fun i hi => hag2 i (.inl hi)
        refine ⟨ρ2, Nat.le_trans hle1 hle2, fun i hi => ?_, ⟨SV.lt_mono hle2 ag v hlt1, hlt2⟩, by simp [hlen2], ?_, ?_, ?_⟩
        · rw [hag2 i (by omega), hag1 i (by omega)]
        · intro j hj
          cases j with
          | zero => simp only [Nat.add_zero, denL, List.getElem?_cons_zero, hu, hden1, den_congr ag v hlt1]
          | succ j =>
            simp only [denL, List.getElem?_cons_succ]
            rw [← hden2 j (by simpa using hj), show c + (j + 1) = c + 1 + j by omega]
        · intro x hx
          rcases List.mem_cons.1 hx with rfl | hx
          · exact hone1
          · exact hone2 x hx
        · intro id s hs
          rw [look_append] at hs
          split at hs
          · rename_i x hx
            simp only [Option.some.injEq] at hs
            subst hs
            obtain ⟨⟨h1, h2⟩, h3⟩ := hro1 id x hx
            exact ⟨⟨h1, by omega⟩, by rw [hag2 id (.inl h2)]; exact h3⟩
          · obtain ⟨⟨h1, h2⟩, h3⟩ := hro2 id s hs
            exact ⟨⟨by omega, h2⟩, h3⟩
      · cases h
    · cases h

section
variable {P : Program} {E : Env} (hA : E.A = Ar.std) (hT : ∀ t ty, E.T t = some ty → TyOk P E.T t ty) {ρ : Nat → Value} {R : Nat → Prop} {m : Mm} {w : World} (hM : SatM ρ R m w) {q : QR}

/-- What is known of a slice's value, owned or only read: its cells. -/
theorem sl_read (hM : SatM ρ R m w) {id : Nat} {s : Sl} (h : slOf m id = some s) :
    id < m.next ∧ ∃ a cap, ρ id = .slice a s.n cap ∧ s.n ≤ cap ∧ cap ≤ maxLen ∧
      ∀ r, r < s.n → ∃ ad, a = some ad ∧ RdKs w R s.ks (s.f r) (fun c => w.cell? (ad.add (r * s.ks.length + c))) 0 := by
  unfold slOf at h
  split at h
  · rename_i s' hs
    simp only [Option.some.injEq] at h
    subst h
    obtain ⟨hlt, hr⟩ := hM.ro _ _ hs
    simp only [RdK, D.ofL, D.n, D.row] at hr
    obtain ⟨a, cap, h1, h2, h3, h4⟩ := hr
    exact ⟨hlt, a, cap, h1, h2, h3, fun r hr => let ⟨ad, ha, _, hc⟩ := h4 r hr; ⟨ad, ha, hc⟩⟩
  · split at h
    · rename_i ex s' hs
      simp only [Option.some.injEq] at h
      subst h
      obtain ⟨hlt, hr⟩ := hM.mem _ _ hs
      refine ⟨hlt, ?_⟩
      rcases hr with ⟨hn, hv⟩ | ⟨b, cap, cur, ty, hv, h1, _, h3, hh, hsz, hrow⟩
      · exact ⟨none, 0, by rw [hv, hn], by omega, by simp [maxLen], fun r hr => by omega⟩
      · refine ⟨some ⟨b, 0, none⟩, cap, hv, h1, h3, fun r hr => ⟨_, rfl, ?_⟩⟩
        refine RdKs_mono (w := w) (R := R) (fun _ _ => rfl) (fun _ h => h) _ _ _ _ 0 (fun c => ?_) (hrow r hr)
        rw [add0, cell_of_row w b _ cur ty (0, 0) hh]
    · cases h

include hA hT hM in
theorem load_ok {ρe : Operand → Value} {o : Oper} {t : Nat} {x : Operand} (ho : o.op = .load t x) {sx : SV}
    (hx : Den ρ m.next sx (ρe x)) (hq : xload E m t sx = some q) : Runs P ρe o ρ R m w q := by
  unfold xload at hq
  split at hq
  · cases hq
  · rename_i ty hty
    have hok := hT _ _ hty
    split at hq
    · rename_i id off
      obtain ⟨hx', hidlt, _⟩ := den_at hx
      split at hq
      · rename_i l hl
        split at hq
        · rename_i hle
          have hle : off + ty.ks.length ≤ l.length := by simpa using hle
          split at hq
          · rename_i v hv
            obtain ⟨_, hltl, _, b, tt, hρ, hh⟩ := hM.mem _ _ hl
            simp only [q0, Option.some.injEq] at hq
            have hlt' : ltL ρ m.next ((l.drop off).take ty.ks.length) := by
              rw [ltL_iff] at hltl ⊢
              exact fun y hy => hltl y (List.mem_of_mem_drop (List.mem_of_mem_take hy))
            obtain ⟨hvlt, hvd⟩ := pack_ok hv hlt'
            have hlen : (denL ρ ((l.drop off).take ty.ks.length)).length = ty.ks.length := by
              rw [denL_length, List.length_take, List.length_drop]; omega
            have hcells : ∀ j u, (denL ρ ((l.drop off).take ty.ks.length))[j]? = some u → w.cell? ((⟨b, off, none⟩ : Addr).add j) = some u := by
              intro j u hu
              have : (⟨b, off, none⟩ : Addr).add j = ⟨b, off + j, none⟩ := by rw [← add0 b off, add_add, add0]
              rw [this, cell_of_row w b _ _ tt (0, 0) hh]
              simp only [List.getElem?_toArray, denL_get, List.getElem?_take, List.getElem?_drop] at hu ⊢
              split at hu
              · exact hu
              · simp at hu
            have hrun := run_loadVar_cells hok w ⟨b, off, none⟩ _ hlen hcells
            have haddr : ρe x = .pointer (some ⟨b, off, none⟩) := by rw [hx', hρ]; simp [shiftV, add0]
            rcases hvd with ⟨hag, hvd⟩ | ⟨hag, y, hy, rfl⟩
            · exact runs_val hq.symm hvd.symm hvlt (by simp [execOp, ho, haddr, Instr.loadAt, Instr.sureAddr, hrun.1 hag])
            · refine runs_val hq.symm rfl hvlt ?_
              have := hrun.2 hag (den ρ v) (by rw [hy]; rfl)
              simp [execOp, ho, haddr, Instr.loadAt, Instr.sureAddr, this]
          · cases hq
        · cases hq
      · cases hq
    · rename_i id es idx off
      obtain ⟨hx', hidlt, a, len, cap, hρ, hidx⟩ := den_el hx
      split at hq
      · rename_i s hs
        obtain ⟨_, a', cap', hρ', _, _, hrd⟩ := sl_read hM hs
        rw [hρ] at hρ'
        simp only [Value.slice.injEq] at hρ'
        obtain ⟨rfl, rfl, rfl⟩ := hρ'
        obtain ⟨ad, had, hrow⟩ := hrd idx hidx
        simp only [Option.some.injEq] at had
        subst had
        split at hq
        · rename_i hle
          simp only [Bool.and_eq_true, bleN_iff, beqN_iff] at hle
          obtain ⟨hle, rfl⟩ := hle
          rw [hA] at hq
          split at hq
          · rename_i vs l nx hmk
            split at hq
            · rename_i v hv
              have hrow' := RdKs_take ty.ks.length _ _ _ _ (RdKs_drop off _ _ _ _ hrow)
              rw [Nat.zero_add] at hrow'
              obtain ⟨ρ', hle', hag', hlt', hlen', hden', hone', hro'⟩ := mkCells_ok _ _ _ _ _ ρ hmk hrow'
              obtain ⟨hvlt, hvd⟩ := pack_ok hv hlt'
              have hkl : (List.take ty.ks.length (List.drop off s.ks)).length = ty.ks.length := by
                rw [List.length_take, List.length_drop]; omega
              have hlen : (denL ρ' vs).length = ty.ks.length := by rw [denL_length, hlen', hkl]
              have hcells : ∀ j u, (denL ρ' vs)[j]? = some u → w.cell? ((a.add (idx * s.ks.length + off)).add j) = some u := by
                intro j u hu
                have hj : j < ty.ks.length := by
                  rw [← hlen]; exact (List.getElem?_eq_some_iff.1 hu).1
                have := hden' j (by rw [hkl]; exact hj)
                rw [add_add, Nat.add_assoc, this, hu]
              have hrun := run_loadVar_cells hok w (a.add (idx * s.ks.length + off)) _ hlen hcells
              have haddr : ρe x = .pointer (some (a.add (idx * s.ks.length + off))) := by rw [hx', hρ]; rfl
              simp only [Option.some.injEq] at hq
              subst hq
              have mk : ∀ u, u = den ρ' v → (execOp ρe o).run P w = .ok (.value u) w → Runs P ρe o ρ R m w ⟨none, v, [], l, nx⟩ := fun u hu hr =>
                ⟨u, ρ', R, w, hr, Den.mk hu hvlt, hag', hle', Grow.refl w, fun _ h => h, fun _ h => .inl h, fun _ _ h => by simp [look] at h, fun _ _ _ _ h => by simp [look] at h, hro'⟩
              rcases hvd with ⟨hag, hvd⟩ | ⟨hag, y, hy, rfl⟩
              · exact mk _ hvd.symm (by simp [execOp, ho, haddr, Instr.loadAt, Instr.sureAddr, hrun.1 hag])
              · refine mk _ rfl ?_
                have := hrun.2 hag (den ρ' v) (by rw [hy]; rfl)
                simp [execOp, ho, haddr, Instr.loadAt, Instr.sureAddr, this]
            · cases hq
          · cases hq
        · cases hq
      · cases hq
    · cases hq
end
end SX

/-
  SX: the quiet operations on memory, continued.
-/
namespace SX
open Go

theorem oneV_eq (v : Value) : oneV v = v.oneCell' := by cases v <;> rfl

theorem look_single {α : Type} {k t : Nat} {x y : α} (h : look [(k, x)] t = some y) : k = t ∧ x = y := by
  simp only [look] at h
  split at h
  · rename_i hb
    exact ⟨by simpa using hb, by simpa using h⟩
  · cases h

/-- A new block of cells. -/
theorem qok_cells {ρ : Nat → Value} {R : Nat → Prop} {m : Mm} {w : World} {t : TypeId} {l : List SV} {p : Option Prop} (hR : ∀ b, R b → b < w.heap.size) (hl : ltL ρ m.next l) (ho : ∀ x ∈ l, oneC x = true) :
    QOk ρ R m w ⟨p, .at m.next 0, [(m.next, .cells l)], [], m.next + 1⟩ (.pointer (some ⟨w.heap.size, 0, none⟩))
      (updV ρ m.next (.pointer (some ⟨w.heap.size, 0, none⟩))) R (w.alloc (.cells (denL ρ l).toArray t)) := by
  have ag : agree m.next ρ (updV ρ m.next (.pointer (some ⟨w.heap.size, 0, none⟩))) := fun i hi => updV_ne _ _ (by omega)
  refine ⟨Den.mk (by simp only [den, updV_same, shiftV, add0]) ⟨Nat.lt_succ_self _, by rw [updV_same]; rfl⟩, fun i hi => updV_ne _ _ (by simp at hi; omega), Nat.le_succ _, Grow.alloc w _, fun _ h => h, fun _ h => .inl h, ?_, ?_, fun _ _ h => by simp [look] at h⟩
  · intro id r h
    simp only [look] at h
    split at h
    · rename_i hb
      have hid : m.next = id := by simpa using hb
      subst hid
      simp only [Option.some.injEq] at h
      subst h
      refine ⟨⟨Nat.le_refl _, Nat.lt_succ_self _⟩, ⟨ltL_mono (Nat.le_succ _) ag l hl, ho, w.heap.size, t, updV_same _ _ _, ?_⟩, ?_⟩
      · rw [denL_congr ag l hl]
        exact World.alloc_heap_new' w _
      · intro b hb
        rw [updV_same] at hb
        simp only [ownB, Option.some.injEq] at hb
        subst hb
        exact ⟨Nat.le_refl _, by simp, fun h => Nat.lt_irrefl _ (hR _ h)⟩
    · cases h
  · intro id r id' r' h h' hne
    refine absurd ?_ hne
    exact (look_single h).1.symm.trans (look_single h').1
where
  World.alloc_heap_new' (w : World) (o : Obj) : (w.alloc o).heap[w.heap.size]? = some o := by show (w.heap.push o)[w.heap.size]? = _; simp

/-- A new array. -/
theorem qok_arr {ρ : Nat → Value} {R : Nat → Prop} {m : Mm} {w w' : World} {t : TypeId} {s : Sl} {cur : Array Value} {p : Option Prop} (hR : ∀ b, R b → b < w.heap.size)
    (hg : Grow w w') (b cap : Nat) (hb : w.heap.size ≤ b) (hb' : w'.heap[b]? = some (.cells cur t (0, 0))) (hn : s.n ≤ cap) (ex : Bool) (hex : ex = true → cap = s.n) (hcap : cap ≤ maxLen) (hsz : cur.size = cap * s.ks.length)
    (hrow : RowOk w R s cur) :
    QOk ρ R m w ⟨p, .at m.next 0, [(m.next, .arr ex s)], [], m.next + 1⟩ (.slice (some ⟨b, 0, none⟩) s.n cap)
      (updV ρ m.next (.slice (some ⟨b, 0, none⟩) s.n cap)) R w' := by
  have hblt : b < w'.heap.size := (Array.getElem?_eq_some_iff.1 hb').1
  refine ⟨Den.mk (by simp only [den, updV_same, shiftV]) ⟨Nat.lt_succ_self _, by rw [updV_same]; rfl⟩, fun i hi => updV_ne _ _ (by simp at hi; omega), Nat.le_succ _, hg, fun _ h => h, fun _ h => .inl h, ?_, ?_, fun _ _ h => by simp [look] at h⟩
  · intro id r h
    simp only [look] at h
    split at h
    · rename_i hq
      have hid : m.next = id := by simpa using hq
      subst hid
      simp only [Option.some.injEq] at h
      subst h
      refine ⟨⟨Nat.le_refl _, Nat.lt_succ_self _⟩, .inr ⟨b, cap, cur, t, updV_same _ _ _, hn, hex, hcap, hb', hsz, RowOk.mono (fun x hx => hg.keep x (hR x hx)) (fun _ h => h) hrow⟩, ?_⟩
      intro b' hbb
      rw [updV_same] at hbb
      simp only [ownB, Option.some.injEq] at hbb
      subst hbb
      exact ⟨hb, hblt, fun h => by have := hR _ h; omega⟩
    · cases h
  · intro id r id' r' h h' hne
    refine absurd ?_ hne
    exact (look_single h).1.symm.trans (look_single h').1

theorem zeroCells_den (ρ : Nat → Value) : ∀ ks : List Kd, denL ρ (ks.map zeroCell) = ks.map zeroV
  | [] => rfl
  | k :: ks => by cases k <;> simp [denL, zeroCell, den, zeroV, zeroCells_den ρ ks]
theorem zeroCells_lt (ρ : Nat → Value) (n : Nat) : ∀ ks : List Kd, ltL ρ n (ks.map zeroCell)
  | [] => trivial
  | k :: ks => by cases k <;> exact ⟨trivial, zeroCells_lt ρ n ks⟩
theorem zeroCells_one (ks : List Kd) (h : ∀ k ∈ ks, ∀ v, k = .raw v → oneV v = true) : ∀ x ∈ ks.map zeroCell, oneC x = true := by
  intro x hx
  obtain ⟨k, hk, rfl⟩ := List.mem_map.1 hx
  cases k <;> first | rfl | exact h _ hk _ rfl

theorem over_len {α : Type} : ∀ (l : List α) (n : Nat) (vs : List α), (over l n vs).length = l.length
  | l, n, [] => by simp [over]
  | [], n, v :: vs => by simp [over]
  | x :: r, 0, v :: vs => by simp [over, over_len r 0 vs]
  | x :: r, n + 1, v :: vs => by simp [over, over_len r n (v :: vs)]
theorem over_den (ρ : Nat → Value) : ∀ (l : List SV) (n : Nat) (vs : List SV), denL ρ (over l n vs) = over (denL ρ l) n (denL ρ vs)
  | l, n, [] => by simp [over, denL]
  | [], n, v :: vs => by simp [over, denL]
  | x :: r, 0, v :: vs => by simp [over, denL, over_den ρ r 0 vs]
  | x :: r, n + 1, v :: vs => by simp [over, denL, over_den ρ r n (v :: vs)]
theorem over_mem {α : Type} {p : α → Prop} : ∀ (l : List α) (n : Nat) (vs : List α), (∀ x ∈ l, p x) → (∀ x ∈ vs, p x) → ∀ x ∈ over l n vs, p x
  | l, n, [], h, _ => by simpa [over] using h
  | [], n, v :: vs, _, _ => by simp [over]
  | x :: r, 0, v :: vs, h, h' => by
    simp only [over, List.mem_cons]
    rintro y (rfl | hy)
    · exact h' _ (by simp)
    · exact over_mem r 0 vs (fun z hz => h z (by simp [hz])) (fun z hz => h' z (by simp [hz])) y hy
  | x :: r, n + 1, v :: vs, h, h' => by
    simp only [over, List.mem_cons]
    rintro y (rfl | hy)
    · exact h _ (by simp)
    · exact over_mem r n (v :: vs) (fun z hz => h z (by simp [hz])) h' y hy

theorem over_set {α : Type} : ∀ (l : List α) (n : Nat) (v : α) (vs : List α), n + (vs.length + 1) ≤ l.length → over l n (v :: vs) = over (l.set n v) (n + 1) vs
  | [], n, v, vs, h => by simp at h
  | x :: r, 0, v, [], h => by simp [over]
  | x :: r, 0, v, u :: us, h => by simp [over]
  | x :: r, n + 1, v, [], h => by simp only [over, List.set_cons_succ]; rw [over_set r n v [] (by simp at h ⊢; omega)]; simp [over]
  | x :: r, n + 1, v, u :: us, h => by
    simp only [over, List.set_cons_succ]
    rw [over_set r n v (u :: us) (by simp at h ⊢; omega)]
theorem foldl_over (off : Nat) : ∀ (vs : List Value) (k : Nat) (cs : Array Value), off + k + vs.length ≤ cs.size →
    (vs.zipIdx k).foldl (fun (cs : Array Value) (p : Value × Nat) => cs.setIfInBounds (off + p.2) p.1) cs = (over cs.toList (off + k) vs).toArray
  | [], k, cs, _ => by simp [over]
  | v :: vs, k, cs, h => by
    simp only [List.length_cons] at h
    rw [List.zipIdx_cons, List.foldl_cons, foldl_over off vs (k + 1) _ (by simp; omega), over_set _ _ _ _ (by simp; omega)]
    simp [Nat.add_assoc]

/-- A value's cells. -/
theorem flat_cells {ρ : Nat → Value} {n : Nat} {sv : SV} {v : Value} (h : Den ρ n sv v) (hone : (flat sv).all oneC = true) :
    v.cells = (denL ρ (flat sv)).toArray ∧ ltL ρ n (flat sv) := by
  cases sv with
  | agg l =>
    obtain ⟨rfl, hl⟩ := den_agg h
    exact ⟨rfl, hl⟩
  | unk => simp [flat, oneC] at hone
  | tup l => simp [flat, oneC] at hone
  | raw x =>
    have := den_raw h
    subst this
    simp only [flat, List.all_cons, oneC, List.all_nil, Bool.and_true] at hone
    refine ⟨?_, trivial, trivial⟩
    cases v <;> simp_all [Value.cells, flat, denL, den, oneV]
  | int k x =>
    rcases h with h | ⟨rfl, hl⟩
    · cases h
    · exact ⟨rfl, hl, trivial⟩
  | prop p =>
    rcases h with h | ⟨rfl, hl⟩
    · cases h
    · exact ⟨rfl, hl, trivial⟩
  | bool b =>
    rcases h with h | ⟨rfl, hl⟩
    · cases h
    · exact ⟨rfl, hl, trivial⟩
  | str s =>
    rcases h with h | ⟨rfl, hl⟩
    · cases h
    · exact ⟨rfl, hl, trivial⟩
  | fn f a b =>
    rcases h with h | ⟨rfl, hl⟩
    · cases h
    · exact ⟨rfl, hl, trivial⟩
  | el id es idx off =>
    rcases h with h | ⟨rfl, hl⟩
    · cases h
    · refine ⟨?_, hl, trivial⟩
      obtain ⟨_, a, len, cap, hρ, _⟩ := hl
      simp only [flat, denL, den, hρ, elp]
      rfl
  | vw id es lo k =>
    rcases h with h | ⟨rfl, hl⟩
    · cases h
    · refine ⟨?_, hl, trivial⟩
      obtain ⟨_, a, len, cap, hρ, _⟩ := hl
      simp only [flat, denL, den, hρ]
      cases lo <;> rfl
  | «at» id off =>
    rcases h with h | ⟨rfl, hl⟩
    · cases h
    · refine ⟨?_, hl, trivial⟩
      have h1 := hl.2
      simp only [flat, denL, den]
      revert h1
      cases ρ id with
      | pointer a => cases a <;> simp [shiftV, Value.cells, oneV]
      | _ => simp [shiftV, Value.cells, oneV]
end SX

/-
  SX: the quiet operations on memory: addresses, new variables, literals.
-/
namespace SX
open Go

theorem mapM_get {α β : Type} {g : α → Option β} : ∀ {l : List α} {r : List β}, l.mapM g = some r → ∀ (i : Nat) (x : α), l[i]? = some x → ∃ y, g x = some y ∧ r[i]? = some y
  | [], r, h, i, x, hx => by simp at hx
  | a :: l, r, h, i, x, hx => by
    simp only [List.mapM_cons, Option.bind_eq_bind, Option.pure_def, Option.bind_eq_some_iff] at h
    obtain ⟨y, hy, ys, hys, hr⟩ := h
    simp only [Option.some.injEq] at hr
    subst hr
    cases i with
    | zero => simp at hx; subst hx; exact ⟨y, hy, rfl⟩
    | succ i => simpa using mapM_get hys i x (by simpa using hx)

section
variable {P : Program} {E : Env} (hA : E.A = Ar.std) (hT : ∀ t ty, E.T t = some ty → TyOk P E.T t ty) {ρ : Nat → Value} {R : Nat → Prop} {m : Mm} {w : World} (hM : SatM ρ R m w) {q : QR}

theorem fill_foldl (cells : Array Value) (off : Nat) (c : Array Value) (h : off + c.size ≤ cells.size) :
    c.zipIdx.foldl (fun cs (p : Value × Nat) => cs.setIfInBounds (off + p.2) p.1) cells = (over cells.toList off c.toList).toArray := by
  rw [← Array.foldl_toList, Array.toList_zipIdx]
  have := foldl_over off c.toList 0 cells (by simpa using h)
  simpa using this

theorem fillS_ok {fs : List (Nat × Nat)} {place : Nat → Option (Nat × Nat)} {ev : Operand → SV} {ρe : Operand → Value} (hev : ∀ x, Den ρ m.next (ev x) (ρe x))
    (hp : ∀ (i o ft : Nat) (ty : Ty), fs[i]? = some (o, ft) → E.T ft = some ty → place i = some (o, ty.ks.length)) :
    ∀ (parts : List (Nat × Operand)) (l l' : List SV), fillS E fs ev parts l = some l' → ltL ρ m.next l → (∀ x ∈ l, oneC x = true) →
      Instr.fill place (denL ρ l).toArray (parts.map fun p => (p.1, ρe p.2)) = some (denL ρ l').toArray ∧ ltL ρ m.next l' ∧ (∀ x ∈ l', oneC x = true) ∧ l'.length = l.length
  | [], l, l', h, hl, ho => by
    simp only [fillS, Option.some.injEq] at h
    subst h
    exact ⟨by simp [Instr.fill], hl, ho, rfl⟩
  | (i, x) :: r, l, l', h, hl, ho => by
    simp only [fillS] at h
    split at h
    · rename_i o ft hfs
      split at h
      · rename_i ty hty
        split at h
        · rename_i hc
          simp only [Bool.and_eq_true, beqN_iff, bleN_iff] at hc
          obtain ⟨⟨hc1, hc2⟩, hc3⟩ := hc
          obtain ⟨hcells, hfl⟩ := flat_cells (hev x) hc3
          have hfo : ∀ y ∈ flat (ev x), oneC y = true := List.all_eq_true.1 hc3
          have hol : ltL ρ m.next (over l o (flat (ev x))) := by
            rw [ltL_iff] at hl hfl ⊢
            exact over_mem l o _ hl hfl
          obtain ⟨h1, h2, h3, h4⟩ := fillS_ok hev hp r _ l' h hol (over_mem l o _ ho hfo)
          refine ⟨?_, h2, h3, by rw [h4, over_len]⟩
          simp only [List.map_cons, Instr.fill, hp i o ft ty hfs hty]
          rw [hcells]
          have e1 : ¬ ((denL ρ (flat (ev x))).toArray.size ≠ ty.ks.length || decide (o + (denL ρ (flat (ev x))).toArray.size > (denL ρ l).toArray.size)) = true := by
            simp [denL_length, hc1]
            rw [hc1] at hc2; omega
          rw [if_neg (by simpa using e1)]
          rw [fill_foldl _ _ _ (by simp [denL_length]; omega)]
          rw [over_den] at h1
          exact h1
        · cases h
      · cases h
    · cases h

theorem fillA_ok {es : Nat} {ev : Operand → SV} {ρe : Operand → Value} (hev : ∀ x, Den ρ m.next (ev x) (ρe x)) :
    ∀ (parts : List (Nat × Operand)) (l l' : List SV), fillA es ev parts l = some l' → ltL ρ m.next l → (∀ x ∈ l, oneC x = true) →
      Instr.fill (fun i => some (i * es, es)) (denL ρ l).toArray (parts.map fun p => (p.1, ρe p.2)) = some (denL ρ l').toArray ∧ ltL ρ m.next l' ∧ (∀ x ∈ l', oneC x = true) ∧ l'.length = l.length
  | [], l, l', h, hl, ho => by
    simp only [fillA, Option.some.injEq] at h
    subst h
    exact ⟨by simp [Instr.fill], hl, ho, rfl⟩
  | (i, x) :: r, l, l', h, hl, ho => by
    simp only [fillA] at h
    split at h
    · rename_i hc
      simp only [Bool.and_eq_true, beqN_iff, bleN_iff] at hc
      obtain ⟨⟨hc1, hc2⟩, hc3⟩ := hc
      obtain ⟨hcells, hfl⟩ := flat_cells (hev x) hc3
      have hfo : ∀ y ∈ flat (ev x), oneC y = true := List.all_eq_true.1 hc3
      have hol : ltL ρ m.next (over l (i * es) (flat (ev x))) := by
        rw [ltL_iff] at hl hfl ⊢
        exact over_mem l _ _ hl hfl
      obtain ⟨h1, h2, h3, h4⟩ := fillA_ok hev r _ l' h hol (over_mem l _ _ ho hfo)
      refine ⟨?_, h2, h3, by rw [h4, over_len]⟩
      simp only [List.map_cons, Instr.fill]
      rw [hcells]
      have e1 : ¬ ((denL ρ (flat (ev x))).toArray.size ≠ es || decide (i * es + (denL ρ (flat (ev x))).toArray.size > (denL ρ l).toArray.size)) = true := by
        simp [denL_length, hc1]
        rw [hc1] at hc2; omega
      rw [if_neg (by simpa using e1)]
      rw [fill_foldl _ _ _ (by simp [denL_length]; omega)]
      rw [over_den] at h1
      exact h1
    · cases h

include hT

theorem build_ok {ρe : Operand → Value} {o : Oper} {t : Nat} {ps : Array (Nat × Operand)} (ho : o.op = .build t ps) {ev : Operand → SV} (hev : ∀ x, Den ρ m.next (ev x) (ρe x))
    (hq : xbuild E m t ps.toList ev = some q) : Runs P ρe o ρ R m w q := by
  have hzero : ∀ (ty : Ty), TyOk P E.T t ty → ∃ i z, P.info? t = some i ∧ i.zero = some z ∧ z.cells = (denL ρ (ty.ks.map zeroCell)).toArray := by
    intro ty hok
    obtain ⟨i, z, h1, _, _, h4, h5⟩ := hok.info
    exact ⟨i, z, h1, h4, by rw [zeroCells_den, ← h5]⟩
  have hparts : (ps.map fun (p : Nat × Operand) => (p.1, ρe p.2)).toList = ps.toList.map fun p => (p.1, ρe p.2) := by simp
  unfold xbuild at hq
  split at hq
  · rename_i ks b fs hty
    have hok := hT _ _ hty
    split at hq
    · rename_i l hl
      simp only [q0, Option.some.injEq] at hq
      obtain ⟨fields, hu, hfs, places, hpl⟩ := hok.dstr fs rfl
      obtain ⟨i, z, hi, hz, hzc⟩ := hzero _ hok
      have hplace : ∀ (i o ft : Nat) (ty : Ty), fs[i]? = some (o, ft) → E.T ft = some ty → places[i]? = some (o, ty.ks.length) := by
        intro i o ft ty h1 h2
        rw [← hfs, List.getElem?_map] at h1
        cases hf : fields.toList[i]? with
        | none => rw [hf] at h1; cases h1
        | some f =>
          rw [hf] at h1
          simp only [Option.map_some, Option.some.injEq, Prod.mk.injEq] at h1
          obtain ⟨y, hy, hy'⟩ := mapM_get hpl i f hf
          obtain ⟨j, _, hj, hjs, _⟩ := (hT _ _ h2).info
          rw [h1.2, hj] at hy
          simp only [Option.map_some, Option.some.injEq] at hy
          rw [hy', ← hy, h1.1, hjs]
      obtain ⟨h1, h2, h3, h4⟩ := fillS_ok (E := E) hev hplace ps.toList _ l hl (zeroCells_lt ρ _ _) (zeroCells_one _ hok.raws)
      refine runs_val hq.symm (v := .agg (denL ρ l).toArray) rfl h2 ?_
      simp [execOp, ho, Instr.build, run_underlying hu, typeInfo, zeroValue, hi, hz, Array.mapM_eq_mapM_toList, run_places w _ _ hpl, hzc]
      have : (ps.toList.map fun (p : Nat × Operand) => (p.1, ρe p.2)) = (ps.toList.map fun (p : Nat × Operand) => (p.1, ρe p.2)) := rfl
      rw [h1]
      simp
    · cases hq
  · rename_i ks b len e hty
    have hok := hT _ _ hty
    split at hq
    · rename_i ety hety
      split at hq
      · rename_i l hl
        simp only [q0, Option.some.injEq] at hq
        obtain ⟨hu, _⟩ := hok.darr len e rfl
        obtain ⟨i, z, hi, hz, hzc⟩ := hzero _ hok
        obtain ⟨j, _, hj, hjs, _⟩ := (hT _ _ hety).info
        obtain ⟨h1, h2, h3, h4⟩ := fillA_ok hev ps.toList _ l hl (zeroCells_lt ρ _ _) (zeroCells_one _ hok.raws)
        refine runs_val hq.symm (v := .agg (denL ρ l).toArray) rfl h2 ?_
        simp [execOp, ho, Instr.build, run_underlying hu, Go.sizeOf, typeInfo, zeroValue, hi, hz, hj, hjs, hzc]
        rw [h1]
        simp
      · cases hq
    · cases hq
  · cases hq

include hM

theorem alloc_ok {ρe : Operand → Value} {o : Oper} {t : Nat} (ho : o.op = .alloc t) {ty : Ty} (hty : E.T t = some ty) :
    Runs P ρe o ρ R m w ⟨none, .at m.next 0, [(m.next, .cells (ty.ks.map zeroCell))], [], m.next + 1⟩ := by
  have hok := hT _ _ hty
  obtain ⟨i, z, hi, _, _, hz, hzc⟩ := hok.info
  refine ⟨_, _, R, _, ?_, qok_cells (t := t) hM.Rlt (zeroCells_lt ρ _ _) (zeroCells_one _ hok.raws)⟩
  have : z.cells = (denL ρ (ty.ks.map zeroCell)).toArray := by rw [zeroCells_den, ← hzc]
  simp [execOp, ho, Instr.alloc, run_zeroValue' hi hz, newVar, newRow, this]

omit hT in
theorem box_ok {ρe : Operand → Value} {o : Oper} {t : Nat} {x : Operand} (ho : o.op = .box t x) {sx : SV} (hx : Den ρ m.next sx (ρe x)) (hone : (flat sx).all oneC = true) :
    Runs P ρe o ρ R m w ⟨none, .at m.next 0, [(m.next, .cells (flat sx))], [], m.next + 1⟩ := by
  obtain ⟨hc, hl⟩ := flat_cells hx hone
  refine ⟨_, _, R, _, ?_, qok_cells (t := t) hM.Rlt hl (List.all_eq_true.1 hone)⟩
  simp [execOp, ho, Instr.box, newVar, newRow, hc]

theorem fieldAddr_ok {ρe : Operand → Value} {o : Oper} {t i : Nat} {x : Operand} (ho : o.op = .fieldAddr t x i) {sx : SV} (hx : Den ρ m.next sx (ρe x))
    (hq : xfieldAddr E m t sx i = some q) : Runs P ρe o ρ R m w q := by
  unfold xfieldAddr at hq
  split at hq
  · rename_i ag ks b fs hty
    have hok := hT _ _ hty
    split at hq
    · rename_i off ft hfi
      obtain ⟨fields, hu, hfs, _⟩ := hok.dstr fs rfl
      rw [← hfs, List.getElem?_map] at hfi
      cases hf : fields.toList[i]? with
      | none => rw [hf] at hfi; cases hfi
      | some f =>
        rw [hf] at hfi
        simp only [Option.map_some, Option.some.injEq, Prod.mk.injEq] at hfi
        have hf' : fields[i]? = some f := by simpa using hf
        split at hq
        · rename_i hnz
          have hsz : ∃ j, P.info? f.type = some j ∧ j.size ≠ 0 := by
            unfold nzSize at hnz
            split at hnz
            · rename_i a k ks' b' d' hft
              obtain ⟨j, _, hj, hjs, _⟩ := (hT _ _ hft).info
              exact ⟨j, by rw [hfi.2]; exact hj, by rw [hjs]; simp⟩
            · cases hnz
          obtain ⟨j, hj, hj0⟩ := hsz
          have hplace : ∀ a : Addr, (fieldPlace a f).run P w = .ok (a.add f.offset) w := by
            intro a
            simp [fieldPlace, run_sizeOf' hj, hj0]
          split at hq
          · rename_i id o'
            obtain ⟨hx', hid, _⟩ := den_at hx
            split at hq
            · rename_i l hl
              obtain ⟨_, _, _, bb, tt, hρ, _⟩ := hM.mem _ _ hl
              simp only [q0, Option.some.injEq] at hq
              refine runs_val hq.symm (v := .pointer (some ⟨bb, o' + off, none⟩)) (by simp only [den, hρ, shiftV, add0]) ⟨hid, by rw [hρ]; rfl⟩ ?_
              have hadd : (⟨bb, o', none⟩ : Addr).add off = ⟨bb, o' + off, none⟩ := by rw [← add0 bb o', add_add, add0]
              simp [execOp, ho, hx', hρ, shiftV, Instr.fieldAt, run_underlying hu, hf', Instr.sureAddr, hplace, hfi.1, add0, hadd]
            · cases hq
          · rename_i id es idx o'
            obtain ⟨hx', hid, a, len, cap, hρ, hlt⟩ := den_el hx
            simp only [q0, Option.some.injEq] at hq
            refine runs_val hq.symm (v := .pointer (some (a.add (idx * es + (o' + off))))) (by simp only [den, hρ, elp]) ⟨hid, a, len, cap, hρ, hlt⟩ ?_
            simp [execOp, ho, hx', hρ, elp, Instr.fieldAt, run_underlying hu, hf', Instr.sureAddr, hplace, add_add, hfi.1, Nat.add_assoc]
          · cases hq
        · cases hq
    · cases hq
  · cases hq

include hA

theorem indexAddr_ok {ρe : Operand → Value} {o : Oper} {t : Nat} {x i : Operand} (ho : o.op = .indexAddr t x i) {sx si : SV} (hx : Den ρ m.next sx (ρe x)) (hi : Den ρ m.next si (ρe i))
    (hq : xindexAddr E m t sx si = some q) (hp : ∀ p, q.pre = some p → p) : Runs P ρe o ρ R m w q := by
  unfold xindexAddr at hq
  split at hq
  · rename_i ag ks b e hty
    have hok := hT _ _ hty
    obtain ⟨hu, _, _⟩ := hok.dsl e rfl
    split at hq
    · rename_i ety hety
      obtain ⟨j, _, hj, hjs, _⟩ := (hT _ _ hety).info
      split at hq
      · rename_i id k n
        obtain ⟨hx', hid, _⟩ := den_at hx
        have hi' := den_int hi
        split at hq
        · rename_i s hs
          split at hq
          · rename_i hes
            have hes : ety.ks.length = s.ks.length := by simpa using hes
            obtain ⟨_, a, cap, hρ, hn, _, hrd⟩ := sl_read hM hs
            simp only [q1, Option.some.injEq] at hq
            have hb := hp _ (by rw [← hq])
            rw [hA] at hb hq
            simp only [Ar.std] at hb hq
            obtain ⟨ad, had, _⟩ := hrd n.toNat (by omega)
            subst had
            refine runs_val hq.symm (v := .pointer (some (ad.add (n.toNat * s.ks.length)))) (by simp only [den, hρ, elp, Nat.add_zero]) ⟨hid, ad, s.n, cap, hρ, by omega⟩ ?_
            simp [execOp, ho, hx', hi', hρ, shiftV, Instr.indexAt, asIntOf, run_underlying hu, run_sizeOf' hj, hjs, hes, hb.1, hb.2]
          · cases hq
        · cases hq
      · cases hq
    · cases hq
  · rename_i ag ks b len e hty
    have hok := hT _ _ hty
    obtain ⟨hu, _⟩ := hok.darr len e rfl
    split at hq
    · rename_i k n ety hety
      obtain ⟨j, _, hj, hjs, _⟩ := (hT _ _ hety).info
      have hi' := den_int hi
      split at hq
      · rename_i h0 hlen
        have h0 : 0 ≤ n := by simpa using h0
        have hlen : n.toNat + 1 ≤ len := by simpa using hlen
        have hlt : n < (len : Int) := by omega
        split at hq
        · rename_i id off
          obtain ⟨hx', hid, _⟩ := den_at hx
          split at hq
          · rename_i l hl
            obtain ⟨_, _, _, bb, tt, hρ, _⟩ := hM.mem _ _ hl
            simp only [q0, Option.some.injEq] at hq
            refine runs_val hq.symm (v := .pointer (some ⟨bb, off + n.toNat * ety.ks.length, none⟩)) (by simp only [den, hρ, shiftV, add0]) ⟨hid, by rw [hρ]; rfl⟩ ?_
            have hadd : (⟨bb, off, none⟩ : Addr).add (n.toNat * ety.ks.length) = ⟨bb, off + n.toNat * ety.ks.length, none⟩ := by rw [← add0 bb off, add_add, add0]
            simp [execOp, ho, hx', hi', hρ, shiftV, Instr.indexAt, asIntOf, run_underlying hu, Instr.sureAddr, run_sizeOf' hj, hjs, h0, hlt, add0, hadd]
          · cases hq
        · rename_i id es idx off
          obtain ⟨hx', hid, a, len', cap, hρ, hlt'⟩ := den_el hx
          simp only [q0, Option.some.injEq] at hq
          refine runs_val hq.symm (v := .pointer (some (a.add (idx * es + (off + n.toNat * ety.ks.length))))) (by simp only [den, hρ, elp]) ⟨hid, a, len', cap, hρ, hlt'⟩ ?_
          simp [execOp, ho, hx', hi', hρ, elp, Instr.indexAt, asIntOf, run_underlying hu, Instr.sureAddr, run_sizeOf' hj, hjs, h0, hlt, add_add, Nat.add_assoc]
        · cases hq
      · cases hq
    · cases hq
  · cases hq
end
end SX

/-
  SX: slices' literals, make, parts of slices, and the rest of the quiet operations.
-/
namespace SX
open Go

mutual
theorem kdEq_ok : ∀ a b : Kd, kdEq a b = true → a = b
  | .int k, .int k', h => by simp [kdEq] at h; rw [h]
  | .bool, .bool, _ => rfl
  | .str, .str, _ => rfl
  | .sl a, .sl b, h => by simp only [kdEq] at h; rw [kdsEq_ok a b h]
  | .int _, .bool, h => by simp [kdEq] at h
  | .int _, .str, h => by simp [kdEq] at h
  | .int _, .sl _, h => by simp [kdEq] at h
  | .int _, .raw _, h => by simp [kdEq] at h
  | .bool, .int _, h => by simp [kdEq] at h
  | .bool, .str, h => by simp [kdEq] at h
  | .bool, .sl _, h => by simp [kdEq] at h
  | .bool, .raw _, h => by simp [kdEq] at h
  | .str, .int _, h => by simp [kdEq] at h
  | .str, .bool, h => by simp [kdEq] at h
  | .str, .sl _, h => by simp [kdEq] at h
  | .str, .raw _, h => by simp [kdEq] at h
  | .sl _, .int _, h => by simp [kdEq] at h
  | .sl _, .bool, h => by simp [kdEq] at h
  | .sl _, .str, h => by simp [kdEq] at h
  | .sl _, .raw _, h => by simp [kdEq] at h
  | .raw _, _, h => by simp [kdEq] at h
theorem kdsEq_ok : ∀ a b : List Kd, kdsEq a b = true → a = b
  | [], [], _ => rfl
  | [], _ :: _, h => by simp [kdsEq] at h
  | _ :: _, [], h => by simp [kdsEq] at h
  | a :: r, b :: s, h => by
    simp only [kdsEq, Bool.and_eq_true] at h
    rw [kdEq_ok a b h.1, kdsEq_ok r s h.2]
end

theorem rep_get {α : Type} (l : List SV) (hl : 0 < l.length) (f : SV → α) : ∀ (n i : Nat), i < n * l.length → (rep n l)[i]? = l[i % l.length]?
  | 0, i, h => by simp at h
  | n + 1, i, h => by
    simp only [rep]
    by_cases hi : i < l.length
    · rw [List.getElem?_append_left hi, Nat.mod_eq_of_lt hi]
    · rw [List.getElem?_append_right (by omega), rep_get l hl f n (i - l.length) (by rw [Nat.add_mul] at h; omega), ← Nat.mod_eq_sub_mod (by omega)]
theorem rep_len (l : List SV) : ∀ n, (rep n l).length = n * l.length
  | 0 => by simp [rep]
  | n + 1 => by simp [rep, rep_len l n, Nat.add_mul, Nat.add_comm]
theorem rep_mem (l : List SV) {p : SV → Prop} (h : ∀ x ∈ l, p x) : ∀ n, ∀ x ∈ rep n l, p x
  | 0 => by simp [rep]
  | n + 1 => by
    simp only [rep, List.mem_append]
    rintro x (hx | hx)
    · exact h x hx
    · exact rep_mem l h n x hx

theorem chunks_get : ∀ (es n : Nat) (l : List SV) (r : Nat), r < n → (chunks es n l)[r]? = some ((l.drop (r * es)).take es)
  | es, 0, l, r, h => by omega
  | es, n + 1, l, 0, h => by simp [chunks]
  | es, n + 1, l, r + 1, h => by
    simp only [chunks, List.getElem?_cons_succ]
    rw [chunks_get es n _ r (by omega), List.drop_drop, Nat.add_mul, Nat.one_mul, Nat.add_comm es]

theorem RdKs_get {w : World} {R : Nat → Prop} {ks : List Kd} {f f' : Nat → D} {g g' : Nat → Option Value} {c : Nat} (hf : ∀ c, f' c = f c) (hg : ∀ c, g' c = g c) (h : RdKs w R ks f g c) : RdKs w R ks f' g' c := by
  have e1 : f' = f := funext hf
  have e2 : g' = g := funext hg
  rw [e1, e2]; exact h

/-- The slice behind a value. -/
def slId : SV → Option Nat
  | .at id 0 => some id
  | .vw id _ _ _ => some id
  | _ => none

/-- A part of a slice that may be read. -/
theorem vw_rd {w : World} {R : Nat → Prop} {s : Sl} {u : Value} {lo : Option Nat} {n : Nat} (h : RdK w R (.sl s.ks) (.ofL s.n s.f) u) (hn : ∃ a len cap, u = .slice a len cap ∧ lo.getD 0 + n ≤ len) :
    RdK w R (.sl s.ks) (.ofL n (vwF Ar.std s lo)) (vwV u s.ks.length lo n) := by
  simp only [RdK, D.ofL, D.n, D.row] at h ⊢
  obtain ⟨a, cap, rfl, h1, h2, h3⟩ := h
  obtain ⟨a', len, cap', he, hle⟩ := hn
  cases he
  cases lo with
  | none =>
    simp only [Option.getD_none, Nat.zero_add] at hle
    exact ⟨a, cap, rfl, by omega, h2, fun r hr => h3 r (by omega)⟩
  | some l =>
    simp only [Option.getD_some] at hle
    refine ⟨_, _, rfl, by omega, by omega, fun r hr => ?_⟩
    obtain ⟨ad, had, hRb, hcells⟩ := h3 (l + r) (by omega)
    subst had
    rw [if_neg (by omega)]
    refine ⟨_, rfl, by simp only [add_block]; exact hRb, RdKs_get (fun _ => rfl) (fun c => ?_) hcells⟩
    rw [add_add, Nat.add_mul, Nat.add_assoc]

/-- A symbolic value that fits a kind reads as its data. -/
theorem cell_rd {A : Ar} (hA : A = Ar.std) {m : Mm} {ρ : Nat → Value} {R : Nat → Prop} {w : World} {kd : Kd} {v : SV} {d : D}
    (hsl : ∀ id s, slId v = some id → slOf m id = some s → RdK w R (.sl s.ks) (.ofL s.n s.f) (ρ id)) {nx : Nat} (hlt : v.lt ρ nx)
    (hf : fits m kd v = true) (hd : dOf A m v = some d) : RdK w R kd d (den ρ v) := by
  subst hA
  unfold fits at hf
  split at hf
  · simp only [dOf, Option.some.injEq] at hd; subst hd
    have : _ = _ := of_decide_eq_true hf
    subst this
    simp [RdK, den, D.ofI, D.i, Ar.std]
  · simp only [dOf, Option.some.injEq] at hd; subst hd
    simp only [RdK, den]
    rfl
  · rename_i b
    simp only [dOf, Option.some.injEq] at hd; subst hd
    simp only [RdK, den, D.ofP, D.p, Ar.std]
    congr 1
    rw [Bool.eq_iff_iff]
    exact (@decide_eq_true_iff _ (Classical.propDecidable _)).symm
  · simp only [dOf, Option.some.injEq] at hd; subst hd
    simp [RdK, den, D.ofS, D.s, Ar.std]
  · simp only [dOf, Option.some.injEq] at hd; subst hd
    simp only [RdK, den, D.ofL, D.n, Ar.std]
    exact ⟨none, 0, rfl, Nat.le_refl _, by simp [maxLen], fun r hr => absurd hr (Nat.not_lt_zero _)⟩
  · rename_i f f'
    simp only [RdK, den, beqN_eq hf]
  · rename_i ks id
    split at hf
    · rename_i s hs
      have hk := kdsEq_ok _ _ hf
      simp only [dOf, hs, Option.some.injEq] at hd
      subst hd
      have := hsl id s rfl hs
      rw [← hk] at this
      have hsh : shiftV (ρ id) 0 = ρ id := by
        cases h : ρ id with
        | pointer a => cases a <;> simp [shiftV, Addr.add]
        | _ => rfl
      simp only [den, hsh]
      exact this
    · cases hf
  · rename_i ks id es lo n
    split at hf
    · rename_i s hs
      simp only [Bool.and_eq_true] at hf
      have hk := kdsEq_ok _ _ hf.1
      have he : es = s.ks.length := by simpa using hf.2
      simp only [dOf, hs, Option.some.injEq] at hd
      subst hd he hk
      exact vw_rd (hsl id s rfl hs) hlt.2
    · cases hf
  · cases hf

theorem dList_rd {A : Ar} (hA : A = Ar.std) {m : Mm} {ρ : Nat → Value} {R : Nat → Prop} {w : World} :
    ∀ (ks : List Kd) (vs : List SV) (ds : List D) (c : Nat) (f : Nat → D) (g : Nat → Option Value),
      (∀ v ∈ vs, ∀ id s, slId v = some id → slOf m id = some s → RdK w R (.sl s.ks) (.ofL s.n s.f) (ρ id)) → ∀ {nx : Nat}, ltL ρ nx vs →
      dList A m ks vs = some ds → (∀ j x, ds[j]? = some x → f (c + j) = x) → (∀ j, j < vs.length → g (c + j) = (denL ρ vs)[j]?) → RdKs w R ks f g c
  | [], [], ds, c, f, g, _, _, _, _, _, _ => by simp [RdKs]
  | [], _ :: _, ds, c, f, g, _, _, _, h, _, _ => by simp [dList] at h
  | _ :: _, [], ds, c, f, g, _, _, _, h, _, _ => by simp [dList] at h
  | k :: ks, v :: vs, ds, c, f, g, hsl, nx, hlt, h, hf, hg => by
    simp only [dList] at h
    split at h
    · rename_i hfit
      split at h
      · rename_i d hd
        split at h
        · rename_i l hl
          simp only [Option.some.injEq] at h
          subst h
          simp only [RdKs]
          refine ⟨⟨den ρ v, by have := hg 0 (by simp); simpa [denL] using this, ?_⟩, dList_rd hA ks vs l (c + 1) f g (fun x hx => hsl x (by simp [hx])) hlt.2 hl ?_ ?_⟩
          · have := hf 0 d (by simp)
            rw [Nat.add_zero] at this
            rw [this]
            exact cell_rd hA (hsl v (by simp)) hlt.1 hfit hd
          · intro j x hx
            have := hf (j + 1) x (by simpa using hx)
            rw [← this]; congr 1; omega
          · intro j hj
            have := hg (j + 1) (by simp; omega)
            rw [show c + 1 + j = c + (j + 1) by omega, this]
            simp [denL]
        · cases h
      · cases h
    · cases h
theorem dList_len {A : Ar} {m : Mm} : ∀ (ks : List Kd) (vs : List SV) (ds : List D), dList A m ks vs = some ds → vs.length = ks.length ∧ ds.length = ks.length
  | [], [], ds, h => by simp [dList] at h; subst h; simp
  | [], _ :: _, ds, h => by simp [dList] at h
  | _ :: _, [], ds, h => by simp [dList] at h
  | k :: ks, v :: vs, ds, h => by
    simp only [dList] at h
    split at h
    · split at h
      · split at h
        · rename_i l hl
          simp only [Option.some.injEq] at h
          subst h
          have := dList_len ks vs l hl
          simp [this]
        · cases h
      · cases h
    · cases h

theorem dRows_get {A : Ar} {m : Mm} {ks : List Kd} : ∀ (l : List (List SV)) (ds : List (List D)), dRows A m ks l = some ds → ∀ (r : Nat) (x : List SV), l[r]? = some x → ∃ d, dList A m ks x = some d ∧ ds[r]? = some d
  | [], ds, h, r, x, hx => by simp at hx
  | a :: l, ds, h, r, x, hx => by
    simp only [dRows] at h
    split at h
    · rename_i d hd
      split at h
      · rename_i ds' hds
        simp only [Option.some.injEq] at h
        subst h
        cases r with
        | zero => simp at hx; subst hx; exact ⟨d, hd, by simp⟩
        | succ r => simpa using dRows_get l ds' hds r x (by simpa using hx)
      · cases h
    · cases h

section
variable {P : Program} {E : Env} (hA : E.A = Ar.std) (hT : ∀ t ty, E.T t = some ty → TyOk P E.T t ty) {ρ : Nat → Value} {R : Nat → Prop} {m : Mm} {w : World} (hM : SatM ρ R m w) {q : QR}

theorem plain_rd (hM : SatM ρ R m w) {v : SV} (h : plain m v = true) : ∀ id s, slId v = some id → slOf m id = some s → RdK w R (.sl s.ks) (.ofL s.n s.f) (ρ id) := by
  intro id s hv hs
  have key : (match look m.ro id with
      | some _ => true
      | none => false) = true → RdK w R (.sl s.ks) (.ofL s.n s.f) (ρ id) := by
    intro h
    split at h
    · rename_i s' hs'
      simp only [slOf, hs', Option.some.injEq] at hs
      subst hs
      exact (hM.ro _ _ hs').2
    · cases h
  unfold slId at hv
  split at hv
  · simp only [Option.some.injEq] at hv
    subst hv
    exact key h
  · simp only [Option.some.injEq] at hv
    subst hv
    exact key h
  · cases hv

include hA hT hM

theorem buildSlice_ok {ρe : Operand → Value} {o : Oper} {t len : Nat} {ps : Array (Nat × Operand)} (ho : o.op = .buildSlice t len ps) {ev : Operand → SV} (hev : ∀ x, Den ρ m.next (ev x) (ρe x))
    (hq : xbuildSlice E m t len ps.toList ev = some q) : Runs P ρe o ρ R m w q := by
  unfold xbuildSlice at hq
  split at hq
  · rename_i ag ks b e hty
    have hok := hT _ _ hty
    obtain ⟨hu, _, hpos⟩ := hok.dsl e rfl
    split at hq
    · rename_i ety hety
      obtain ⟨hk0, _⟩ := hpos ety hety
      have heok := hT _ _ hety
      obtain ⟨i, z, hi, his, _, hz, hzc⟩ := heok.info
      split at hq
      · rename_i hle
        have hle : len * ety.ks.length ≤ 4096 := by simpa using hle
        split at hq
        · rename_i l hl
          split at hq
          · rename_i hpl
            split at hq
            · rename_i ds hds
              simp only [Option.some.injEq] at hq
              have hzl : 0 < (ety.ks.map zeroCell).length := by simpa using hk0
              have hrepl : ltL ρ m.next (rep len (ety.ks.map zeroCell)) := by
                rw [ltL_iff]
                exact rep_mem _ ((ltL_iff _ _ _).1 (zeroCells_lt ρ m.next ety.ks)) len
              obtain ⟨h1, h2, h3, h4⟩ := fillA_ok hev ps.toList _ l hl hrepl (rep_mem _ (zeroCells_one _ heok.raws) len)
              rw [rep_len] at h4
              simp only [List.length_map] at h4
              have hzcells : (Array.range (len * ety.ks.length)).map (z.cells[· % z.cells.size]!) = (denL ρ (rep len (ety.ks.map zeroCell))).toArray := by
                apply Array.ext'
                apply List.ext_getElem?
                intro j
                have hzs : z.cells.size = ety.ks.length := by rw [← Array.length_toList, hzc, List.length_map]
                by_cases hj : j < len * ety.ks.length
                · rw [List.toList_toArray, denL_get, rep_get (ety.ks.map zeroCell) hzl (fun x => x) len j (by simpa using hj)]
                  simp only [Array.toList_map, Array.toList_range, List.getElem?_map, List.getElem?_range hj, Option.map_some, List.length_map]
                  have hm : j % ety.ks.length < ety.ks.length := Nat.mod_lt _ hk0
                  rw [List.getElem?_eq_getElem hm]
                  simp only [Option.map_some, hzs]
                  have h5 : z.cells[j % ety.ks.length]? = some (zeroV ety.ks[j % ety.ks.length]) := by
                    rw [← Array.getElem?_toList, hzc, List.getElem?_map, List.getElem?_eq_getElem hm]; rfl
                  have h6 : den ρ (zeroCell ety.ks[j % ety.ks.length]) = zeroV ety.ks[j % ety.ks.length] := by
                    cases ety.ks[j % ety.ks.length] <;> rfl
                  rw [h6]
                  congr 1
                  rw [getElem!_def, h5]
                · rw [List.getElem?_eq_none (by simpa using hj), List.getElem?_eq_none (by rw [List.toList_toArray, denL_length, rep_len]; simpa using hj)]
              have hsz : ((denL ρ l).toArray).size = len * ety.ks.length := by simp [denL_length, h4]
              have hrun : (execOp ρe o).run P w = .ok (.value (.slice (some ⟨w.heap.size, 0, none⟩) len len)) (w.alloc (.cells (denL ρ l).toArray e)) := by
                have n1 : ¬ (16777216 < len * ety.ks.length) := by omega
                have hfill : Instr.fill (fun i => some (i * ety.ks.length, ety.ks.length)) ((Array.range (len * ety.ks.length)).map (z.cells[· % z.cells.size]!)) (ps.toList.map fun p => (p.1, ρe p.2)) = some (denL ρ l).toArray := by
                  rw [hzcells]; exact h1
                by_cases h0 : len * ety.ks.length = 0
                · have hlen0 : len = 0 := by
                    rcases Nat.mul_eq_zero.1 h0 with h | h
                    · exact h
                    · omega
                  subst hlen0
                  simp only [Nat.zero_mul, Array.range_zero', Array.map_empty] at hfill
                  simp [execOp, ho, Instr.buildSlice, run_underlying hu, run_sizeOf' hi, his, newRow, hfill, Array.range_zero']
                · simp [execOp, ho, Instr.buildSlice, run_underlying hu, run_sizeOf' hi, his, n1, h0, run_zeroValue' hi hz, newRow, hfill]
              subst hq
              refine ⟨_, _, R, _, hrun, qok_arr (t := e) (cur := (denL ρ l).toArray) hM.Rlt (Grow.alloc w _) w.heap.size len (Nat.le_refl _) (qok_cells.World.alloc_heap_new' w _) (Nat.le_refl _) true (fun _ => rfl) ?_ hsz ?_⟩
              · have : len ≤ len * ety.ks.length := Nat.le_mul_of_pos_right _ hk0
                simp only [maxLen]; omega
              · intro r hr
                obtain ⟨d, hd, hdr⟩ := dRows_get _ _ hds r _ (chunks_get ety.ks.length len l r hr)
                obtain ⟨hl1, hl2⟩ := dList_len _ _ _ hd
                refine dList_rd hA _ _ d 0 _ _ (fun v hv => plain_rd hM (List.all_eq_true.1 hpl v (List.mem_of_mem_drop (List.mem_of_mem_take hv)))) (nx := m.next) ((ltL_iff _ _ _).2 fun v hv => (ltL_iff _ _ _).1 h2 v (List.mem_of_mem_drop (List.mem_of_mem_take hv))) hd ?_ ?_
                · intro j x hx
                  rw [hA]
                  simp [Ar.std, List.getD_eq_getElem?_getD, hdr, hx]
                · intro j hj
                  simp only [Nat.zero_add, List.getElem?_toArray, denL_get, List.getElem?_take, List.getElem?_drop]
                  rw [if_pos (by rw [hl1] at hj; exact hj)]
            · cases hq
          · cases hq
        · cases hq
      · cases hq
    · cases hq
  · cases hq

theorem makeSlice_ok {ρe : Operand → Value} {o : Oper} {t : Nat} {x y : Operand} (ho : o.op = .makeSlice t x y) {sx sy : SV} (hx : Den ρ m.next sx (ρe x)) (hy : Den ρ m.next sy (ρe y))
    (hq : xmakeSlice E m t sx sy = some q) (hp : ∀ p, q.pre = some p → p) : Runs P ρe o ρ R m w q := by
  unfold xmakeSlice at hq
  split at hq
  · rename_i ag ks b e n n' hty
    have hok := hT _ _ hty
    obtain ⟨hu, _, hpos⟩ := hok.dsl e rfl
    have hx' := den_int hx
    have hy' := den_int hy
    split at hq
    · rename_i ety hety
      obtain ⟨hk0, hb0⟩ := hpos ety hety
      obtain ⟨i, z, hi, his, hib, hz, hzc⟩ := (hT _ _ hety).info
      simp only [Option.some.injEq] at hq
      have hb := hp _ (by rw [← hq])
      rw [hA] at hb hq
      simp only [Ar.std] at hb hq
      obtain ⟨hnn, h0, hbytes⟩ := hb
      subst hnn
      have hnb : n ≤ n * (ety.bytes : Int) := by
        have h1 : n * 1 ≤ n * (ety.bytes : Int) := Int.mul_le_mul_of_nonneg_left (by omega) h0
        simpa using h1
      have hrun := run_make (P := P) w t e i z hu hi hz .i64 .i64 n n h0 (Int.le_refl _) (by rw [hib, Int.mul_comm]; omega) (by omega)
      rw [his] at hrun
      subst hq
      refine ⟨_, _, R, _, by simp only [execOp, ho, hx', hy', Sem.run_bind, hrun, Result.andThen_ok, Sem.run_pure], qok_arr (t := e) (s := ⟨ety.ks, n.toNat, fun _ c => zeroD (ety.ks.getD c .bool)⟩) (cur := madeCells z.cells (n.toNat * ety.ks.length)) hM.Rlt (Grow.alloc w _) w.heap.size n.toNat (Nat.le_refl _) (qok_cells.World.alloc_heap_new' w _) (Nat.le_refl _) true (fun _ => rfl) (by simp only [maxLen]; omega) (size_madeCells _ _) ?_⟩
      intro r hr
      have hzs : z.cells.size = ety.ks.length := by rw [← Array.length_toList, hzc, List.length_map]
      have key : ∀ (ks' : List Kd) (c : Nat), (∀ j, ks'[j]? = ety.ks[c + j]?) → c + ks'.length ≤ ety.ks.length →
          RdKs w R ks' (fun c => zeroD (ety.ks.getD c .bool)) (fun c => (madeCells z.cells (n.toNat * ety.ks.length))[r * ety.ks.length + c]?) c := by
        intro ks'
        induction ks' with
        | nil => intro c _ _; simp [RdKs]
        | cons k ks' ih =>
          intro c hks hc
          have hk : ety.ks[c]? = some k := by have := hks 0; simpa using this.symm
          simp only [List.length_cons] at hc
          simp only [RdKs]
          refine ⟨⟨zeroV k, ?_, ?_⟩, ih (c + 1) (fun j => by have := hks (j + 1); rw [show c + 1 + j = c + (j + 1) by omega, ← this]; simp) (by omega)⟩
          · have hlt : r * ety.ks.length + c < n.toNat * ety.ks.length := by
              have : (r + 1) * ety.ks.length ≤ n.toNat * ety.ks.length := Nat.mul_le_mul_right _ hr
              rw [Nat.add_mul, Nat.one_mul] at this; omega
            unfold madeCells
            rw [Array.getElem?_map, Array.getElem?_range, if_pos hlt]
            simp only [Option.map_some, hzs]
            have hm : (r * ety.ks.length + c) % ety.ks.length = c := by
              rw [Nat.mul_comm, Nat.mul_add_mod, Nat.mod_eq_of_lt (by omega)]
            rw [hm]
            have h5 : z.cells[c]? = some (zeroV k) := by
              rw [← Array.getElem?_toList, hzc, List.getElem?_map, hk]; rfl
            rw [getElem!_def, h5]
          · rw [List.getD_eq_getElem?_getD, hk]
            cases k with
            | int k => simp [zeroD, RdK, zeroV, D.ofI, D.i]
            | bool =>
              simp only [Option.getD_some, zeroD, RdK, zeroV]
              congr 1
              exact (@decide_eq_false _ (Classical.propDecidable _) (by simp [D.ofP, D.p])).symm
            | str => simp [zeroD, RdK, zeroV, D.ofS, D.s]
            | sl ks => simp only [Option.getD_some, zeroD, RdK, zeroV, D.ofL, D.n]; exact ⟨none, 0, rfl, Nat.le_refl _, by simp [maxLen], fun r hr => absurd hr (Nat.not_lt_zero _)⟩
            | fnc f => simp [RdK, zeroV]
            | raw v => simp [RdK]
      exact key ety.ks 0 (fun j => by simp) (by omega)
    · cases hq
  · cases hq
end
end SX

/-
  SX: the rest of the quiet operations, and all of them together.
-/
namespace SX
open Go

theorem shift0 (v : Value) : shiftV v 0 = v := by
  cases v with
  | pointer a => cases a <;> simp [shiftV, Addr.add]
  | _ => rfl

section
variable {P : Program} {E : Env} (hA : E.A = Ar.std) (hT : ∀ t ty, E.T t = some ty → TyOk P E.T t ty) {ρ : Nat → Value} {R : Nat → Prop} {m : Mm} {w : World} (hM : SatM ρ R m w) {q : QR}

/-- A new slice that is only read. -/
theorem qok_ro {s : Sl} {v : Value} {p : Option Prop} (h : RdK w R (.sl s.ks) (.ofL s.n s.f) v) :
    QOk ρ R m w ⟨p, .at m.next 0, [], [(m.next, s)], m.next + 1⟩ v (updV ρ m.next v) R w := by
  have hone : oneV v = true := by
    simp only [RdK] at h
    obtain ⟨a, cap, hv, _⟩ := h
    rw [hv]; rfl
  refine ⟨Den.mk (by simp only [den, updV_same, shift0]) ⟨Nat.lt_succ_self _, by rw [updV_same]; exact hone⟩, fun i hi => updV_ne _ _ (by simp at hi; omega), Nat.le_succ _, Grow.refl w, fun _ h => h, fun _ h => .inl h,
    fun _ _ h => by simp [look] at h, fun _ _ _ _ h => by simp [look] at h, fun id s' hs => ?_⟩
  obtain ⟨rfl, rfl⟩ := look_single hs
  exact ⟨⟨Nat.le_refl _, Nat.lt_succ_self _⟩, by rw [updV_same]; exact h⟩

include hA hT hM

theorem slice_ok {ρe : Operand → Value} {o : Oper} {t : Nat} {x : Operand} {lo hi : Option Operand} (ho : o.op = .slice t x lo hi none) {sx : SV} {slo shi : Option SV} (hx : Den ρ m.next sx (ρe x))
    (hlo : ∀ k n, slo = some (.int k n) → ∃ y, lo = some y ∧ ρe y = .int k n) (hhi : ∀ k n, shi = some (.int k n) → ∃ y, hi = some y ∧ ρe y = .int k n)
    (hlo0 : slo = none → lo = none) (hhi0 : shi = none → hi = none)
    (hq : xslice E m t sx slo shi = some q) (hp : ∀ p, q.pre = some p → p) : Runs P ρe o ρ R m w q := by
  unfold xslice at hq
  split at hq
  · rename_i ag ks b e id hty
    have hok := hT _ _ hty
    obtain ⟨hu, hsome, _⟩ := hok.dsl e rfl
    obtain ⟨ety, hety⟩ := Option.isSome_iff_exists.1 hsome
    obtain ⟨i, z, hi', his, _⟩ := (hT _ _ hety).info
    obtain ⟨hx', hid, _⟩ := den_at hx
    rw [shift0] at hx'
    split at hq
    · rename_i s hs
      split at hq
      case h_2 => cases hq
      rename_i hke
      have hke : ety.ks.length = s.ks.length := by simpa [sizeIs, hety] using hke
      obtain ⟨_, hrd⟩ := hM.ro _ _ hs
      simp only [RdK, D.ofL, D.n, D.row] at hrd
      obtain ⟨a, cap, hρ, hn, hcap, hrow⟩ := hrd
      split at hq
      · rename_i k l
        obtain ⟨y, rfl, hy⟩ := hlo _ _ rfl
        have := hhi0 rfl
        subst this
        simp only [Option.some.injEq] at hq
        have hb := hp _ (by rw [← hq])
        rw [hA] at hb hq
        simp only [Ar.std] at hb hq
        subst hq
        refine ⟨.slice (if cap = l.toNat then a else a.map (·.add (l.toNat * i.size))) (s.n - l.toNat) (cap - l.toNat), _, R, w, ?_, qok_ro (s := ⟨s.ks, s.n - l.toNat, fun r c => s.f (l.toNat + r) c⟩) ?_⟩
        · have h2 : l ≤ (s.n : Int) := hb.2
          simp [execOp, ho, hx', hρ, Instr.sliceAt, run_underlying hu, Instr.slice, Instr.sliceBounds, hy, Instr.sliceBound, asIntOf, hb.1, h2, run_sizeOf' hi']
        · simp only [RdK, D.ofL, D.n, D.row]
          refine ⟨_, _, rfl, by omega, by omega, fun r hr => ?_⟩
          obtain ⟨ad, had, hRb, hcells⟩ := hrow (l.toNat + r) (by omega)
          subst had
          rw [if_neg (by omega)]
          refine ⟨_, rfl, by simp only [add_block]; exact hRb, RdKs_get (fun _ => rfl) (fun c => ?_) hcells⟩
          rw [add_add, his, hke, Nat.add_mul, Nat.add_assoc]
      · rename_i k h
        obtain ⟨y, rfl, hy⟩ := hhi _ _ rfl
        have := hlo0 rfl
        subst this
        simp only [Option.some.injEq] at hq
        have hb := hp _ (by rw [← hq])
        rw [hA] at hb hq
        simp only [Ar.std] at hb hq
        subst hq
        have hcap' : h ≤ (cap : Int) := by have := hb.2; omega
        refine ⟨.slice a h.toNat cap, _, R, w, ?_, qok_ro (s := ⟨s.ks, h.toNat, s.f⟩) ?_⟩
        · simp [execOp, ho, hx', hρ, Instr.sliceAt, run_underlying hu, Instr.slice, Instr.sliceBounds, hy, Instr.sliceBound, asIntOf, hb.1, hcap', run_sizeOf' hi', Addr.add]
        · simp only [RdK, D.ofL, D.n, D.row]
          exact ⟨a, cap, rfl, by omega, hcap, fun r hr => hrow r (by omega)⟩
      · rename_i k l k' h
        obtain ⟨y, rfl, hy⟩ := hlo _ _ rfl
        obtain ⟨y', rfl, hy'⟩ := hhi _ _ rfl
        simp only [Option.some.injEq] at hq
        have hb := hp _ (by rw [← hq])
        rw [hA] at hb hq
        simp only [Ar.std] at hb hq
        subst hq
        obtain ⟨hb1, hb2, hb3⟩ := hb
        have hcap' : h ≤ (cap : Int) := by omega
        have h0 : 0 ≤ h := by omega
        have hmx : ¬ max h 0 < l := by omega
        refine ⟨.slice (if cap = l.toNat then a else a.map (·.add (l.toNat * i.size))) (h.toNat - l.toNat) (cap - l.toNat), _, R, w, ?_, qok_ro (s := ⟨s.ks, h.toNat - l.toNat, fun r c => s.f (l.toNat + r) c⟩) ?_⟩
        · simp [execOp, ho, hx', hρ, Instr.sliceAt, run_underlying hu, Instr.slice, Instr.sliceBounds, hy, hy', Instr.sliceBound, asIntOf, hb1, hmx, h0, hcap', run_sizeOf' hi']
        · simp only [RdK, D.ofL, D.n, D.row]
          refine ⟨_, _, rfl, by omega, by omega, fun r hr => ?_⟩
          obtain ⟨ad, had, hRb, hcells⟩ := hrow (l.toNat + r) (by omega)
          subst had
          rw [if_neg (by omega)]
          refine ⟨_, rfl, by simp only [add_block]; exact hRb, RdKs_get (fun _ => rfl) (fun c => ?_) hcells⟩
          rw [add_add, his, hke, Nat.add_mul, Nat.add_assoc]
      · cases hq
    · -- what is owned: a view
      split at hq
      case h_2 => cases hq
      rename_i ex s hs
      split at hq
      case h_2 => cases hq
      rename_i hke
      have hke : ety.ks.length = s.ks.length := by simpa [sizeIs, hety] using hke
      obtain ⟨_, hres⟩ := hM.mem _ _ hs
      obtain ⟨a, cap, hρ, hn⟩ : ∃ a cap, ρ id = .slice a s.n cap ∧ s.n ≤ cap := by
        rcases hres with ⟨hn, hv⟩ | ⟨b, cap, cur, ty, hv, h1, _⟩
        · exact ⟨none, 0, by rw [hv, hn], by omega⟩
        · exact ⟨_, cap, hv, h1⟩
      split at hq
      · rename_i k l
        obtain ⟨y, rfl, hy⟩ := hlo _ _ rfl
        have := hhi0 rfl
        subst this
        simp only [q1, Option.some.injEq] at hq
        have hb := hp _ (by rw [← hq])
        rw [hA] at hb hq
        simp only [Ar.std] at hb hq
        have h2 : l ≤ (s.n : Int) := hb.2
        refine runs_val hq.symm (v := .slice (if cap = l.toNat then a else a.map (·.add (l.toNat * i.size))) (s.n - l.toNat) (cap - l.toNat)) (by simp only [den, hρ, vwV, his, hke]) ⟨hid, a, s.n, cap, hρ, by simp only [Option.getD_some]; omega⟩ ?_
        simp [execOp, ho, hx', hρ, Instr.sliceAt, run_underlying hu, Instr.slice, Instr.sliceBounds, hy, Instr.sliceBound, asIntOf, hb.1, h2, run_sizeOf' hi']
      · rename_i k h
        obtain ⟨y, rfl, hy⟩ := hhi _ _ rfl
        have := hlo0 rfl
        subst this
        simp only [q1, Option.some.injEq] at hq
        have hb := hp _ (by rw [← hq])
        rw [hA] at hb hq
        simp only [Ar.std] at hb hq
        have hcap' : h ≤ (cap : Int) := by have := hb.2; omega
        refine runs_val hq.symm (v := .slice a h.toNat cap) (by simp only [den, hρ, vwV]) ⟨hid, a, s.n, cap, hρ, by simp only [Option.getD_none]; have := hb.2; omega⟩ ?_
        simp [execOp, ho, hx', hρ, Instr.sliceAt, run_underlying hu, Instr.slice, Instr.sliceBounds, hy, Instr.sliceBound, asIntOf, hb.1, hcap', run_sizeOf' hi', Addr.add]
      · rename_i k l k' h
        obtain ⟨y, rfl, hy⟩ := hlo _ _ rfl
        obtain ⟨y', rfl, hy'⟩ := hhi _ _ rfl
        simp only [q1, Option.some.injEq] at hq
        have hb := hp _ (by rw [← hq])
        rw [hA] at hb hq
        simp only [Ar.std] at hb hq
        obtain ⟨hb1, hb2, hb3⟩ := hb
        have hcap' : h ≤ (cap : Int) := by omega
        have h0 : 0 ≤ h := by omega
        have hmx : ¬ max h 0 < l := by omega
        refine runs_val hq.symm (v := .slice (if cap = l.toNat then a else a.map (·.add (l.toNat * i.size))) (h.toNat - l.toNat) (cap - l.toNat)) (by simp only [den, hρ, vwV, his, hke]) ⟨hid, a, s.n, cap, hρ, by simp only [Option.getD_some]; omega⟩ ?_
        simp [execOp, ho, hx', hρ, Instr.sliceAt, run_underlying hu, Instr.slice, Instr.sliceBounds, hy, hy', Instr.sliceBound, asIntOf, hb1, hmx, h0, hcap', run_sizeOf' hi']
      · cases hq
  · cases hq

theorem len_ok {ρe : Operand → Value} {o : Oper} {t : Nat} {x : Operand} {c : Call} (ho : o.op = .call c) (hc : c.callee = .builtin .len) (hargs : c.args = #[x]) (hts : c.argTypes = #[t]) {sx : SV} (hx : Den ρ m.next sx (ρe x))
    (hq : xlen E m t sx = some q) : Runs P ρe o ρ R m w q := by
  unfold xlen at hq
  split at hq
  · rename_i ag ks b e id hty
    have hok := hT _ _ hty
    obtain ⟨hu, _, _⟩ := hok.dsl e rfl
    obtain ⟨hx', hid, _⟩ := den_at hx
    rw [shift0] at hx'
    split at hq
    · rename_i s hs
      obtain ⟨_, a, cap, hρ, _⟩ := sl_read hM hs
      simp only [q0, Option.some.injEq, hA, Ar.std] at hq
      refine runs_val hq.symm rfl trivial ?_
      simp [execOp, ho, resolve, hc, hargs, hts, invoke, builtin, Builtin.len_, run_underlying hu, hx', hρ, den, goInt]
    · cases hq
  · rename_i ag ks b e id es lo n hty
    have hok := hT _ _ hty
    obtain ⟨hu, _, _⟩ := hok.dsl e rfl
    simp only [q0, Option.some.injEq, hA, Ar.std] at hq
    rcases hx with hx | ⟨hx', hid, a, len, cap, hρ, _⟩
    · cases hx
    refine runs_val hq.symm rfl trivial ?_
    cases lo <;> simp [execOp, ho, resolve, hc, hargs, hts, invoke, builtin, Builtin.len_, run_underlying hu, hx', hρ, den, vwV, goInt]
  · rename_i ag ks b e hty
    have hok := hT _ _ hty
    obtain ⟨hu, _, _⟩ := hok.dsl e rfl
    have hx' := den_raw hx
    simp only [q0, Option.some.injEq] at hq
    refine runs_val hq.symm rfl trivial ?_
    simp [execOp, ho, resolve, hc, hargs, hts, invoke, builtin, Builtin.len_, run_underlying hu, hx', den, goInt]
  · rename_i b d s hty
    have hok := hT _ _ hty
    have hx' := den_str hx
    have hu := hok.kstr rfl rfl
    simp only [q0, Option.some.injEq, hA, Ar.std] at hq
    refine runs_val hq.symm rfl trivial ?_
    simp [execOp, ho, resolve, hc, hargs, hts, invoke, builtin, Builtin.len_, run_underlying hu, hx', den, goInt]
  · cases hq

omit hA hT hM in
theorem minmax_ok {m : Mm} {ρ : Nat → Value} {f : Int → Int → Int} {g : Value → Value → Sem Value} (hg : ∀ k x y w, (g (.int k x) (.int k y)).run P w = .ok (.int k (f x y)) w) :
    ∀ (l : List SV) (ls : List Value) (k : IntKind) (n : Int) (k' : IntKind) (n' : Int), (∀ (j : Nat) (sv : SV), l[j]? = some sv → ∃ v, ls[j]? = some v ∧ Den ρ m.next sv v) → l.length = ls.length →
      minmax.minmaxGo f k n l = some (k', n') → (ls.foldlM g (.int k n)).run P w = .ok (.int k' n') w
  | [], ls, k, n, k', n', _, hl, h => by
    have : ls = [] := List.length_eq_zero_iff.1 hl.symm
    subst this
    simp only [minmax.minmaxGo, Option.some.injEq, Prod.mk.injEq] at h
    obtain ⟨rfl, rfl⟩ := h
    simp
  | sv :: l, [], k, n, k', n', _, hl, h => by simp at hl
  | sv :: l, v :: ls, k, n, k', n', hd, hl, h => by
    obtain ⟨v', hv', hden⟩ := hd 0 sv rfl
    simp only [List.getElem?_cons_zero, Option.some.injEq] at hv'
    subst hv'
    unfold minmax.minmaxGo at h
    split at h
    · rename_i heq; cases heq
    · rename_i k2 n2 r heq
      simp only [List.cons.injEq] at heq
      obtain ⟨rfl, rfl⟩ := heq
      split at h
      · rename_i hk
        have hk : k = k2 := of_decide_eq_true hk
        subst hk
        have := den_int hden
        subst this
        simp only [List.foldlM_cons, Sem.run_bind, hg, Result.andThen_ok]
        exact minmax_ok hg l ls k (f n n2) k' n' (fun j sv hj => by simpa using hd (j + 1) sv (by simpa using hj)) (by simpa using hl) h
      · cases h
    · cases h

end
end SX

/-
  SX: all quiet operations, calls of functions whose law is known among them.
-/
namespace SX
open Go

/-- A value of the given cells, read as data. -/
def ArgRd (w : World) (R : Nat → Prop) (g : Bool) (ks : List Kd) (f : Nat → D) (v : Value) : Prop :=
  ∃ cs : List Value, (g = true → v = .agg cs.toArray) ∧ (g = false → cs = [v]) ∧ cs.length = ks.length ∧ RdKs w R ks f (fun c => cs[c]?) 0

def ArgsRd (w : World) (R : Nat → Prop) : List (Bool × List Kd) → List (List D) → List Value → Prop
  | [], [], [] => True
  | (g, ks) :: r, d :: ds, v :: vs => d.length = ks.length ∧ ArgRd w R g ks (fun c => d.getD c .nil) v ∧ ArgsRd w R r ds vs
  | _, _, _ => False

def ResRd (w : World) (R : Nat → Prop) (f : Nat → Nat → D) : List (Bool × List Kd) → Nat → List Value → Prop
  | [], _, [] => True
  | (g, ks) :: r, i, v :: vs => ArgRd w R g ks (f i) v ∧ ResRd w R f r (i + 1) vs
  | _, _, _ => False

def oneVal (vs : List Value) : Value :=
  match vs with
  | [v] => v
  | vs => .tuple vs.toArray

/-- THE LAW OF A FUNCTION: it reads its arguments, makes what it returns, and writes nothing that was there. -/
def PureFn (P : Program) (sg : Sig) (f : Nat) (pre : List (List D) → Prop) (res : List (List D) → Nat → Nat → D) : Prop :=
  ∀ (w : World) (R : Nat → Prop) (args : List Value) (ds : List (List D)), (∀ b, R b → b < w.heap.size) → ArgsRd w R sg.params ds args → pre ds →
    Calls P f args.toArray w fun e w' => ∃ vs R', e = .returned (oneVal vs) ∧ Grow w w' ∧ (∀ b, R b → R' b) ∧ (∀ b, R' b → R b ∨ (w.heap.size ≤ b ∧ b < w'.heap.size)) ∧
      ResRd w' R' (res ds) sg.results 0 vs

/-- A slice that has memory of its own, made after a world of so many blocks. -/
def ArrIs (w : World) (n0 : Nat) (ks : List Kd) (d : D) (u : Value) : Prop :=
  (d.n = 0 ∧ u = .slice none 0 0) ∨ ∃ b cap cur ty, n0 ≤ b ∧ u = .slice (some ⟨b, 0, none⟩) d.n cap ∧ d.n ≤ cap ∧ cap ≤ maxLen ∧ w.heap[b]? = some (.cells cur ty (0, 0)) ∧ cur.size = cap * ks.length ∧
    RowOk w (fun _ => False) ⟨ks, d.n, d.row⟩ cur
def FrK (w : World) (n0 : Nat) : Kd → D → Value → Prop
  | .sl ks, d, u => ks.all scalarK = true ∧ ArrIs w n0 ks d u
  | k, d, u => RdK w (fun _ => False) k d u
def FrKs (w : World) (n0 : Nat) : List Kd → (Nat → D) → List Value → Nat → Prop
  | [], _, [], _ => True
  | k :: ks, f, u :: us, c => FrK w n0 k (f c) u ∧ FrKs w n0 ks f us (c + 1)
  | _, _, _, _ => False
def FrRes (w : World) (n0 : Nat) (f : Nat → Nat → D) : List (Bool × List Kd) → Nat → List (List Value) → Prop
  | [], _, [] => True
  | (_, ks) :: r, i, cs :: css => FrKs w n0 ks (f i) cs 0 ∧ FrRes w n0 f r (i + 1) css
  | _, _, _ => False
/-- Results out of their cells. -/
def ShapeOf : List (Bool × List Kd) → List (List Value) → List Value → Prop
  | [], [], [] => True
  | (g, _) :: r, cs :: css, v :: vs => (g = true → v = .agg cs.toArray) ∧ (g = false → cs = [v]) ∧ ShapeOf r css vs
  | _, _, _ => False
def apartV (u v : Value) : Prop := ∀ b, ownB u = some b → ownB v ≠ some b

/-- The law of a function that makes its results anew. -/
def PureFnF (P : Program) (sg : Sig) (f : Nat) (pre : List (List D) → Prop) (res : List (List D) → Nat → Nat → D) : Prop :=
  ∀ (w : World) (R : Nat → Prop) (args : List Value) (ds : List (List D)), (∀ b, R b → b < w.heap.size) → ArgsRd w R sg.params ds args → pre ds →
    Calls P f args.toArray w fun e w' => ∃ vs css, e = .returned (oneVal vs) ∧ Grow w w' ∧ ShapeOf sg.results css vs ∧ FrRes w' w.heap.size (res ds) sg.results 0 css ∧ css.flatten.Pairwise apartV

structure EnvOk (E : Env) (P : Program) : Prop where
  A : E.A = Ar.std
  T : ∀ t ty, E.T t = some ty → TyOk P E.T t ty
  sig : ∀ f sg, E.sig f = some sg → PureFn P sg f (E.pre f) (E.fn f) ∧ ∃ fn, P.funcs[f]? = some fn ∧ fn.body.isSome = true ∧ (fn.name == "runtime.NumGoroutine") = false
  cmp : ∀ t, E.cmp t = true → CmpOk P E.T t
  fr : ∀ f sg, E.sig f = some sg → E.cmp (freshN f) = true → PureFnF P sg f (E.pre f) (E.fn f)
  inl : ∀ f fn, E.inl f = some fn → P.funcs[f]? = some fn ∧ fn.body.isSome = true ∧ (fn.name == "runtime.NumGoroutine") = false
  mixed : P.follows .mixedOrders = true

section
variable {P : Program} {E : Env} (hE : EnvOk E P) {ρ : Nat → Value} {R : Nat → Prop} {m : Mm} {w : World} (hM : SatM ρ R m w) {q : QR}

theorem den_map {ρ : Nat → Value} {n : Nat} {ev : Operand → SV} {ρe : Operand → Value} (hev : ∀ x, Den ρ n (ev x) (ρe x)) (l : List Operand) :
    ∀ (j : Nat) (sv : SV), (l.map ev)[j]? = some sv → ∃ v, (l.map ρe)[j]? = some v ∧ Den ρ n sv v := by
  intro j sv h
  rw [List.getElem?_map] at h ⊢
  cases hx : l[j]? with
  | none => rw [hx] at h; cases h
  | some x =>
    rw [hx] at h
    simp only [Option.map_some, Option.some.injEq] at h
    exact ⟨ρe x, rfl, h ▸ hev x⟩

include hE hM

/-- Quiet operations that are no calls of Go functions. -/
theorem xq_plain {ρe : Operand → Value} {o : Oper} {ev : Operand → SV} (hev : ∀ x, Den ρ m.next (ev x) (ρe x)) (_hconst : ∀ v, ρe (.const v) = v)
    (hno : ∀ c, o.op = .call c → ∃ b, c.callee = .builtin b) (hq : xq E m ev o.op = some q) (hp : ∀ p, q.pre = some p → p) : Runs P ρe o ρ R m w q := by
  have hA := hE.A
  have hT := hE.T
  have mv : ∀ x, (execOp ρe o).run P w = .ok (.value (ρe x)) w → q0 m (ev x) = some q → Runs P ρe o ρ R m w q := by
    intro x hr hq
    simp only [q0, Option.some.injEq] at hq
    subst hq
    exact ⟨_, _, _, _, hr, QOk.val (hev x)⟩
  cases ho : o.op with
  | move x =>
    rw [ho] at hq
    simp only [xq] at hq
    exact mv x (by simp [execOp, ho]) hq
  | assign x =>
    rw [ho] at hq
    simp only [xq] at hq
    exact mv x (by simp [execOp, ho]) hq
  | pick c x y =>
    rw [ho] at hq
    simp only [xq] at hq
    split at hq
    · rename_i hc
      have hc' := hev c
      rw [hc] at hc'
      exact mv x (by simp [execOp, ho, den_bool hc', asBool]) hq
    · rename_i hc
      have hc' := hev c
      rw [hc] at hc'
      exact mv y (by simp [execOp, ho, den_bool hc', asBool]) hq
    · cases hq
  | alloc t =>
    rw [ho] at hq
    simp only [xq] at hq
    split at hq
    · rename_i ty hty
      simp only [Option.some.injEq] at hq
      subst hq
      exact alloc_ok hT hM ho hty
    · cases hq
  | box t x =>
    rw [ho] at hq
    simp only [xq] at hq
    split at hq
    · rename_i h
      simp only [Option.some.injEq] at hq
      subst hq
      exact box_ok hM ho (hev x) h
    · cases hq
  | build t ps => rw [ho] at hq; simp only [xq] at hq; exact build_ok hT ho hev hq
  | buildSlice t n ps => rw [ho] at hq; simp only [xq] at hq; exact buildSlice_ok hA hT hM ho hev hq
  | load t x => rw [ho] at hq; simp only [xq] at hq; exact load_ok hA hT hM ho (hev x) hq
  | nilCheck x =>
    rw [ho] at hq
    simp only [xq] at hq
    have hx := hev x
    split at hq
    · rename_i id off hx'
      rw [hx'] at hx
      obtain ⟨hv, hid, hone⟩ := den_at hx
      split at hq
      · rename_i l hl
        obtain ⟨_, _, _, b, tt, hρ, _⟩ := hM.mem _ _ hl
        simp only [q0, Option.some.injEq] at hq
        refine runs_val hq.symm rfl ⟨hid, hone⟩ ?_
        simp [execOp, ho, hv, hρ, shiftV, den]
      · cases hq
    · rename_i id es idx off hx'
      rw [hx'] at hx
      obtain ⟨hv, hid, a, len, cap, hρ, hlt⟩ := den_el hx
      simp only [q0, Option.some.injEq] at hq
      refine runs_val hq.symm rfl ⟨hid, a, len, cap, hρ, hlt⟩ ?_
      simp [execOp, ho, hv, hρ, elp, den]
    · rename_i f a b hx'
      rw [hx'] at hx
      rcases hx with hx | ⟨hv, hl⟩
      · cases hx
      · simp only [q0, Option.some.injEq] at hq
        refine runs_val hq.symm rfl hl ?_
        simp [execOp, ho, hv, den]
    · cases hq
  | binOp op t x y ty => rw [ho] at hq; simp only [xq] at hq; exact bin_ok hA ho (hev x) (hev y) hE.cmp hq hp
  | unOp op t x => rw [ho] at hq; simp only [xq] at hq; exact un_ok hA ho (hev x) hq hp
  | convert s t x => rw [ho] at hq; simp only [xq] at hq; exact conv_ok hA hT ho (hev x) hq hp
  | makeFunc f a b =>
    rw [ho] at hq
    simp only [xq] at hq
    split at hq
    · rename_i hk
      simp only [Bool.and_eq_true, List.all_eq_true] at hk
      have hl : ∀ l : List Operand, (∀ x ∈ l.map ev, known x = true) → denL ρ (l.map ev) = l.map ρe ∧ ltL ρ m.next (l.map ev) := by
        intro l
        induction l with
        | nil => exact fun _ => ⟨rfl, trivial⟩
        | cons y l ih =>
          intro h
          obtain ⟨h1, h2⟩ := ih (fun x hx => h x (by simp [hx]))
          have hy := hev y
          rcases hy with hy | ⟨hy1, hy2⟩
          · have := h (ev y) (by simp)
            rw [hy] at this
            cases this
          · exact ⟨by simp [denL, h1, hy1], hy2, h2⟩
      obtain ⟨a1, a2⟩ := hl _ hk.1
      obtain ⟨b1, b2⟩ := hl _ hk.2
      simp only [q0, Option.some.injEq] at hq
      refine runs_val hq.symm rfl ⟨a2, b2⟩ ?_
      simp only [execOp, ho, Instr.makeFunc, den, a1, b1, Sem.run_bind, Sem.run_pure, Result.andThen_ok]
      congr 3 <;> (apply Array.ext'; simp)
    · cases hq
  | makeSlice t l c => rw [ho] at hq; simp only [xq] at hq; exact makeSlice_ok hA hT hM ho (hev l) (hev c) hq hp
  | slice t x lo hi mx =>
    rw [ho] at hq
    cases mx with
    | some _ => simp [xq] at hq
    | none =>
      simp only [xq] at hq
      have mp : ∀ y : Option Operand, ∀ k n, y.map ev = some (.int k n) → ∃ z, y = some z ∧ ρe z = .int k n := by
        intro y k n hy
        cases y with
        | none => cases hy
        | some z =>
          simp only [Option.map_some, Option.some.injEq] at hy
          have := hev z
          rw [hy] at this
          exact ⟨z, rfl, den_int this⟩
      exact slice_ok hA hT hM ho (hev x) (mp lo) (mp hi) (fun h => by cases lo <;> simp_all) (fun h => by cases hi <;> simp_all) hq hp
  | fieldAddr t x i => rw [ho] at hq; simp only [xq] at hq; exact fieldAddr_ok hT hM ho (hev x) hq
  | field t x i =>
    rw [ho] at hq
    simp only [xq] at hq
    split at hq
    · rename_i ag ks b fs l hty hx'
      have hok := hT _ _ hty
      split at hq
      · rename_i off ft hfi
        obtain ⟨fields, hu, hfs, _⟩ := hok.dstr fs rfl
        rw [← hfs, List.getElem?_map] at hfi
        cases hf : fields.toList[i]? with
        | none => rw [hf] at hfi; cases hfi
        | some f =>
          rw [hf] at hfi
          simp only [Option.map_some, Option.some.injEq, Prod.mk.injEq] at hfi
          have hf' : fields[i]? = some f := by simpa using hf
          split at hq
          · rename_i ty hty'
            have hok' := hT _ _ hty'
            split at hq
            · rename_i hle
              have hle : off + ty.ks.length ≤ l.length := by simpa using hle
              split at hq
              · rename_i v hv
                have hx := hev x
                rw [hx'] at hx
                obtain ⟨hxv, hl⟩ := den_agg hx
                simp only [q0, Option.some.injEq] at hq
                have hlt' : ltL ρ m.next ((l.drop off).take ty.ks.length) := by
                  rw [ltL_iff] at hl ⊢
                  exact fun y hy => hl y (List.mem_of_mem_drop (List.mem_of_mem_take hy))
                obtain ⟨hvlt, hvd⟩ := pack_ok hv hlt'
                obtain ⟨j, z, hj, hjs, _⟩ := hok'.info
                rcases hvd with ⟨hag, hvd⟩ | ⟨hag, y, hy, rfl⟩
                · obtain ⟨d, hd, hd'⟩ := hok'.aggT hag
                  refine runs_val hq.symm hvd.symm hvlt ?_
                  rw [← hfi.2] at hd hj
                  simp [execOp, ho, Instr.field, run_underlying hu, hf', hxv, asAgg, part, run_isAgg' hd, hd', run_sizeOf' hj, hjs, hfi.1]
                  simp [denL_map, List.map_take, List.map_drop]
                · obtain ⟨d, hd, hd'⟩ := hok'.aggF hag
                  refine runs_val hq.symm rfl hvlt ?_
                  rw [← hfi.2] at hd
                  have e2 : (denL ρ l)[off]? = some (den ρ v) := by
                    rw [denL_get]
                    have : (l.drop off)[0]? = some v := by
                      have h3 : ((l.drop off).take ty.ks.length)[0]? = some v := by rw [hy]; rfl
                      rw [List.getElem?_take] at h3
                      split at h3
                      · exact h3
                      · cases h3
                    rw [List.getElem?_drop, Nat.add_zero] at this
                    rw [this]; rfl
                  simp [execOp, ho, Instr.field, run_underlying hu, hf', hxv, asAgg, part, run_isAgg' hd, hd', hfi.1, e2]
              · cases hq
            · cases hq
          · cases hq
      · cases hq
    · cases hq
  | indexAddr t x i =>
    rw [ho] at hq
    simp only [xq] at hq
    exact indexAddr_ok hA hT hM ho (hev x) (hev i) hq hp
  | extract x i =>
    rw [ho] at hq
    simp only [xq] at hq
    split at hq
    · rename_i l hx'
      have hx := hev x
      rw [hx'] at hx
      obtain ⟨hxv, hl⟩ := den_tup hx
      split at hq
      · rename_i v hv
        simp only [q0, Option.some.injEq] at hq
        have hvl : v.lt ρ m.next := (ltL_iff _ _ _).1 hl v (List.mem_of_getElem? hv)
        refine runs_val hq.symm rfl hvl ?_
        simp [execOp, ho, hxv, Instr.extract, denL_get, hv]
      · cases hq
    · cases hq
  | call c =>
    obtain ⟨b, hb⟩ := hno c ho
    rw [ho] at hq
    simp only [xq, hb] at hq
    have hmap : ∀ (k : IntKind) (n : Int) (f : Int → Int → Int) (g : Value → Value → Sem Value), (∀ k x y w, (g (.int k x) (.int k y)).run P w = .ok (.int k (f x y)) w) →
        minmax f (c.args.toList.map ev) = some (k, n) → ∃ y ys, c.args.toList.map ρe = y :: ys ∧ (ys.foldlM g y).run P w = .ok (.int k n) w := by
      intro k n f g hg hmm
      have hd := den_map hev c.args.toList
      have hlen : (c.args.toList.map ev).length = (c.args.toList.map ρe).length := by simp
      revert hmm hd hlen
      generalize c.args.toList.map ev = l
      generalize c.args.toList.map ρe = ls
      intro hmm hd hlen
      unfold minmax at hmm
      split at hmm
      · rename_i k1 n1
        simp only [Option.some.injEq, Prod.mk.injEq] at hmm
        obtain ⟨rfl, rfl⟩ := hmm
        obtain ⟨v, hv, hden⟩ := hd 0 _ rfl
        match ls, hv with
        | y :: ys, hv =>
          simp only [List.getElem?_cons_zero, Option.some.injEq] at hv
          subst hv
          have : ys = [] := List.length_eq_zero_iff.1 (by simpa using hlen.symm)
          subst this
          exact ⟨_, _, rfl, by simp [den_int hden]⟩
      · rename_i k1 n1 k2 n2 r
        split at hmm
        · rename_i hk
          have hk : k1 = k2 := of_decide_eq_true hk
          subst hk
          obtain ⟨v, hv, hden⟩ := hd 0 _ rfl
          obtain ⟨v2, hv2, hden2⟩ := hd 1 _ rfl
          match ls, hv, hv2 with
          | y :: z :: ys, hv, hv2 =>
            simp only [List.getElem?_cons_zero, List.getElem?_cons_succ, Option.some.injEq] at hv hv2
            subst hv
            subst hv2
            refine ⟨_, _, rfl, ?_⟩
            rw [den_int hden, den_int hden2]
            simp only [List.foldlM_cons, Sem.run_bind, hg, Result.andThen_ok]
            exact minmax_ok (m := m) (ρ := ρ) hg r ys k1 (f n1 n2) k n (fun j sv hj => by simpa using hd (j + 2) sv (by simpa using hj)) (by simpa using hlen) hmm
        · cases hmm
      · cases hmm
    unfold xcallB at hq
    split at hq
    · split at hq
      · rename_i x t hargs hts
        obtain ⟨z, hz, hzx⟩ : ∃ z, c.args = #[z] ∧ ev z = x := by
          have h1 : c.args.toList.length = 1 := by have := congrArg List.length hargs; simpa using this
          obtain ⟨z, hz⟩ := List.length_eq_one_iff.1 h1
          refine ⟨z, by apply Array.ext'; simpa using hz, ?_⟩
          rw [hz] at hargs
          simpa using hargs
        subst hzx
        exact len_ok hA hT hM ho hb hz (by apply Array.ext'; simpa using hts) (hev z) hq
      · cases hq
    · split at hq
      · rename_i k n hmm
        rw [hA] at hmm
        obtain ⟨y, ys, hys, hrun⟩ := hmap k n _ Builtin.min2 (fun k x y w => by simp [Builtin.min2, Ar.std]) hmm
        simp only [q0, Option.some.injEq] at hq
        refine runs_val hq.symm rfl trivial ?_
        have e1 : (c.args.map ρe).toList = y :: ys := by rw [Array.toList_map, hys]
        simp [execOp, ho, resolve, hb, invoke, builtin, Builtin.min_, hys, hrun, den]
      · cases hq
    · split at hq
      · rename_i k n hmm
        rw [hA] at hmm
        obtain ⟨y, ys, hys, hrun⟩ := hmap k n _ Builtin.max2 (fun k x y w => by simp [Builtin.max2, Ar.std]) hmm
        simp only [q0, Option.some.injEq] at hq
        refine runs_val hq.symm rfl trivial ?_
        have e1 : (c.args.map ρe).toList = y :: ys := by rw [Array.toList_map, hys]
        simp [execOp, ho, resolve, hb, invoke, builtin, Builtin.max_, hys, hrun, den]
      · cases hq
    · cases hq
  | _ => rw [ho] at hq; simp [xq] at hq
end
end SX

/-
  SX: results that were made anew: the caller owns their memory.
-/
namespace SX
open Go

theorem apartV_symm {u v : Value} (h : apartV u v) : apartV v u := fun b hb hb' => h b hb' hb

/-- What is said of the entries of new results. -/
structure FrEnt (w : World) (n0 nx nx' : Nat) (us : List Value) (ρ' : Nat → Value) (l : List (Nat × Res)) : Prop where
  one : ∀ id r, look l id = some r → (nx ≤ id ∧ id < nx') ∧ (∀ R nn, ResOk ρ' R w nn id r) ∧ ρ' id ∈ us ∧ (∀ b, ownB (ρ' id) = some b → n0 ≤ b ∧ b < w.heap.size)
  two : us.Pairwise apartV → ∀ id r id' r', look l id = some r → look l id' = some r' → id ≠ id' → apartV (ρ' id) (ρ' id')

theorem FrEnt.nil {w : World} {n0 nx : Nat} {us : List Value} {ρ : Nat → Value} : FrEnt w n0 nx nx us ρ [] := ⟨fun _ _ h => by simp [look] at h, fun _ _ _ _ _ h => by simp [look] at h⟩

theorem resOk_arr_congr {ρ ρ' : Nat → Value} {R : Nat → Prop} {w : World} {nn id : Nat} {e : Bool} {s : Sl} (h : ρ' id = ρ id) (hr : ResOk ρ R w nn id (.arr e s)) : ResOk ρ' R w nn id (.arr e s) := by
  simp only [ResOk] at hr ⊢
  rw [h]; exact hr

theorem FrEnt.append {w : World} {n0 nx nx1 nx2 : Nat} {us1 us2 : List Value} {ρ1 ρ2 : Nat → Value} {l1 l2 : List (Nat × Res)} (h1 : FrEnt w n0 nx nx1 us1 ρ1 l1) (h2 : FrEnt w n0 nx1 nx2 us2 ρ2 l2)
    (ha : ∀ i, i < nx1 → ρ2 i = ρ1 i) (hle1 : nx ≤ nx1) (hle2 : nx1 ≤ nx2) (harr : ∀ id r, look l1 id = some r → ∃ s, r = .arr false s) : FrEnt w n0 nx nx2 (us1 ++ us2) ρ2 (l1 ++ l2) := by
  have parts : ∀ id r, look (l1 ++ l2) id = some r → look l1 id = some r ∨ (look l1 id = none ∧ look l2 id = some r) := by
    intro id r h
    rw [look_append] at h
    split at h
    · rename_i y hy
      simp only [Option.some.injEq] at h
      subst h
      exact .inl hy
    · rename_i hy
      exact .inr ⟨hy, h⟩
  refine ⟨fun id r h => ?_, fun hp id r id' r' h h' hne => ?_⟩
  · rcases parts id r h with h | ⟨_, h⟩
    · obtain ⟨⟨a1, a2⟩, a3, a4, a5⟩ := h1.one id r h
      obtain ⟨s, rfl⟩ := harr id r h
      refine ⟨⟨a1, by omega⟩, fun R nn => resOk_arr_congr (ha id a2) (a3 R nn), by rw [ha id a2]; exact List.mem_append_left _ a4, fun b hb => a5 b (by rw [← ha id a2]; exact hb)⟩
    · obtain ⟨⟨a1, a2⟩, a3, a4, a5⟩ := h2.one id r h
      exact ⟨⟨by omega, a2⟩, a3, List.mem_append_right _ a4, a5⟩
  · rw [List.pairwise_append] at hp
    obtain ⟨p1, p2, p3⟩ := hp
    rcases parts id r h with h | ⟨_, h⟩ <;> rcases parts id' r' h' with h' | ⟨_, h'⟩
    · rw [ha id (h1.one id r h).1.2, ha id' (h1.one id' r' h').1.2]
      exact h1.two p1 id r id' r' h h' hne
    · rw [ha id (h1.one id r h).1.2]
      exact p3 _ (h1.one id r h).2.2.1 _ (h2.one id' r' h').2.2.1
    · rw [ha id' (h1.one id' r' h').1.2]
      exact apartV_symm (p3 _ (h1.one id' r' h').2.2.1 _ (h2.one id r h).2.2.1)
    · exact h2.two p2 id r id' r' h h' hne

theorem mkCellF_ok {w : World} {n0 : Nat} {kd : Kd} {d : D} {nx : Nat} {u : Value} (ρ : Nat → Value) {v : SV} {l : List (Nat × Res)} {nx' : Nat} (h : mkCellF Ar.std kd d nx = some (v, l, nx')) (hr : FrK w n0 kd d u) :
    ∃ ρ', nx ≤ nx' ∧ (∀ i, (i < nx ∨ nx' ≤ i) → ρ' i = ρ i) ∧ v.lt ρ' nx' ∧ u = den ρ' v ∧ FrEnt w n0 nx nx' [u] ρ' l ∧ (∀ id r, look l id = some r → ∃ s, r = .arr false s) := by
  cases kd with
  | int k =>
    simp only [mkCellF, Option.some.injEq, Prod.mk.injEq] at h
    obtain ⟨rfl, rfl, rfl⟩ := h
    exact ⟨ρ, Nat.le_refl _, fun _ _ => rfl, trivial, (by simp only [FrK, RdK] at hr; exact hr), .nil, fun _ _ h => by simp [look] at h⟩
  | bool =>
    simp only [mkCellF, Option.some.injEq, Prod.mk.injEq] at h
    obtain ⟨rfl, rfl, rfl⟩ := h
    exact ⟨ρ, Nat.le_refl _, fun _ _ => rfl, trivial, (by simp only [FrK, RdK] at hr; exact hr), .nil, fun _ _ h => by simp [look] at h⟩
  | str =>
    simp only [mkCellF, Option.some.injEq, Prod.mk.injEq] at h
    obtain ⟨rfl, rfl, rfl⟩ := h
    exact ⟨ρ, Nat.le_refl _, fun _ _ => rfl, trivial, (by simp only [FrK, RdK] at hr; exact hr), .nil, fun _ _ h => by simp [look] at h⟩
  | fnc f => simp [mkCellF] at h
  | raw z => simp [mkCellF] at h
  | sl ks =>
    simp only [mkCellF] at h
    split at h
    · simp only [Option.some.injEq, Prod.mk.injEq] at h
      obtain ⟨rfl, rfl, rfl⟩ := h
      simp only [FrK] at hr
      obtain ⟨hsc, hr⟩ := hr
      have hone : oneV u = true := by
        rcases hr with ⟨_, hu⟩ | ⟨b, cap, cur, ty, _, hu, _⟩ <;> rw [hu] <;> rfl
      have hsh : shiftV u 0 = u := by
        rcases hr with ⟨_, hu⟩ | ⟨b, cap, cur, ty, _, hu, _⟩ <;> rw [hu] <;> rfl
      have look1 : ∀ id r, look [(nx, Res.arr false ⟨ks, d.n, d.row⟩)] id = some r → id = nx ∧ r = .arr false ⟨ks, d.n, d.row⟩ := by
        intro id r h
        simp only [look] at h
        split at h
        · rename_i hb
          simp only [Option.some.injEq] at h
          exact ⟨(beqN_eq hb).symm, h.symm⟩
        · cases h
      refine ⟨updV ρ nx u, Nat.le_succ _, fun i hi => updV_ne _ _ (by omega), ⟨Nat.lt_succ_self _, by rw [updV_same]; exact hone⟩, by simp only [den, updV_same, hsh], ⟨fun id r h => ?_, fun _ id r id' r' h h' hne => ?_⟩, fun id r h => ⟨_, (look1 id r h).2⟩⟩
      · obtain ⟨rfl, rfl⟩ := look1 id r h
        rw [updV_same]
        refine ⟨⟨Nat.le_refl _, Nat.lt_succ_self _⟩, fun R nn => ?_, by simp, fun b hb => ?_⟩
        · simp only [ResOk, updV_same]
          rcases hr with ⟨hn, hu⟩ | ⟨b, cap, cur, ty, h1, hu, h2, h3, h4, h5, h6⟩
          · exact .inl ⟨hn, hu⟩
          · exact .inr ⟨b, cap, cur, ty, hu, h2, (fun h => by cases h), h3, h4, h5, RowOk.mono (fun _ h => h.elim) (fun _ h => h.elim) h6⟩
        · rcases hr with ⟨hn, hu⟩ | ⟨b', cap, cur, ty, h1, hu, h2, h3, h4, h5, h6⟩
          · rw [hu] at hb; cases hb
          · rw [hu] at hb
            simp only [ownB, Option.some.injEq] at hb
            subst hb
            exact ⟨h1, (Array.getElem?_eq_some_iff.1 h4).1⟩
      · exact absurd ((look1 id r h).1.trans (look1 id' r' h').1.symm) hne
    · cases h

theorem mkCellsF_ok {w : World} {n0 : Nat} : ∀ (ks : List Kd) (f : Nat → D) (c nx : Nat) (us : List Value) (ρ : Nat → Value) {vs : List SV} {l : List (Nat × Res)} {nx' : Nat},
    mkCellsF Ar.std ks f c nx = some (vs, l, nx') → FrKs w n0 ks f us c →
    ∃ ρ', nx ≤ nx' ∧ (∀ i, (i < nx ∨ nx' ≤ i) → ρ' i = ρ i) ∧ ltL ρ' nx' vs ∧ us = denL ρ' vs ∧ FrEnt w n0 nx nx' us ρ' l ∧ (∀ id r, look l id = some r → ∃ s, r = .arr false s)
  | [], f, c, nx, us, ρ, vs, l, nx', h, hr => by
    simp only [mkCellsF, Option.some.injEq, Prod.mk.injEq] at h
    obtain ⟨rfl, rfl, rfl⟩ := h
    cases us with
    | nil => exact ⟨ρ, Nat.le_refl _, fun _ _ => rfl, trivial, rfl, .nil, fun _ _ h => by simp [look] at h⟩
    | cons u us => simp [FrKs] at hr
  | k :: ks, f, c, nx, [], ρ, vs, l, nx', h, hr => by simp [FrKs] at hr
  | k :: ks, f, c, nx, u :: us, ρ, vs, l, nx', h, hr => by
    simp only [mkCellsF] at h
    split at h
    · rename_i v l1 nx1 hk
      split at h
      · rename_i vs' ls nx2 hks
        simp only [Option.some.injEq, Prod.mk.injEq] at h
        obtain ⟨rfl, rfl, rfl⟩ := h
        simp only [FrKs] at hr
        obtain ⟨ρ1, hle1, hag1, hlt1, hden1, he1, ha1⟩ := mkCellF_ok ρ hk hr.1
        obtain ⟨ρ2, hle2, hag2, hlt2, hden2, he2, ha2⟩ := mkCellsF_ok ks f (c + 1) nx1 us ρ1 hks hr.2
        have ag : agree nx1 ρ1 ρ2 := fun i hi => hag2 i (.inl hi)
        refine ⟨ρ2, Nat.le_trans hle1 hle2, fun i hi => by rw [hag2 i (by omega), hag1 i (by omega)], ⟨SV.lt_mono hle2 ag v hlt1, hlt2⟩, ?_, he1.append he2 ag hle1 hle2 ha1, fun id r h => ?_⟩
        · simp only [denL]
          rw [← hden2, den_congr ag v hlt1, ← hden1]
        · rw [look_append] at h
          split at h
          · rename_i y hy
            simp only [Option.some.injEq] at h
            subst h
            exact ha1 _ _ hy
          · exact ha2 _ _ h
      · cases h
    · cases h

theorem resSVF_ok {w : World} {n0 : Nat} {f : Nat → Nat → D} : ∀ (rs : List (Bool × List Kd)) (i nx : Nat) (css : List (List Value)) (us : List Value) (ρ : Nat → Value) {vs : List SV} {l : List (Nat × Res)} {nx' : Nat},
    resSVF Ar.std f rs i nx = some (vs, l, nx') → FrRes w n0 f rs i css → ShapeOf rs css us →
    ∃ ρ', nx ≤ nx' ∧ (∀ i, (i < nx ∨ nx' ≤ i) → ρ' i = ρ i) ∧ ltL ρ' nx' vs ∧ us = denL ρ' vs ∧ FrEnt w n0 nx nx' css.flatten ρ' l ∧ (∀ id r, look l id = some r → ∃ s, r = .arr false s)
  | [], i, nx, css, us, ρ, vs, l, nx', h, hr, hsh => by
    simp only [resSVF, Option.some.injEq, Prod.mk.injEq] at h
    obtain ⟨rfl, rfl, rfl⟩ := h
    cases css with
    | nil => cases us with
      | nil => exact ⟨ρ, Nat.le_refl _, fun _ _ => rfl, trivial, rfl, .nil, fun _ _ h => by simp [look] at h⟩
      | cons u us => simp [ShapeOf] at hsh
    | cons u us => simp [FrRes] at hr
  | (g, ks) :: rs, i, nx, [], us, ρ, vs, l, nx', h, hr, hsh => by simp [FrRes] at hr
  | (g, ks) :: rs, i, nx, cs :: css, [], ρ, vs, l, nx', h, hr, hsh => by simp [ShapeOf] at hsh
  | (g, ks) :: rs, i, nx, cs :: css, u :: us, ρ, vs, l, nx', h, hr, hsh => by
    simp only [resSVF] at h
    split at h
    · rename_i vs1 l1 nx1 hmk
      split at h
      · rename_i v hv
        split at h
        · rename_i ws l2 nx2 hrs
          simp only [Option.some.injEq, Prod.mk.injEq] at h
          obtain ⟨rfl, rfl, rfl⟩ := h
          simp only [FrRes] at hr
          simp only [ShapeOf] at hsh
          obtain ⟨hg1, hg2, hsh⟩ := hsh
          obtain ⟨ρ1, hle1, hag1, hlt1, hcs, he1, ha1⟩ := mkCellsF_ok ks (f i) 0 nx cs ρ hmk hr.1
          obtain ⟨hvlt, hvd⟩ := pack_ok hv hlt1
          obtain ⟨ρ2, hle2, hag2, hlt2, hus, he2, ha2⟩ := resSVF_ok rs (i + 1) nx1 css us ρ1 hrs hr.2 hsh
          have ag : agree nx1 ρ1 ρ2 := fun i hi => hag2 i (.inl hi)
          refine ⟨ρ2, Nat.le_trans hle1 hle2, fun i hi => by rw [hag2 i (by omega), hag1 i (by omega)], ⟨SV.lt_mono hle2 ag v hvlt, hlt2⟩, ?_, ?_, fun id r h => ?_⟩
          · simp only [denL]
            rw [← hus, den_congr ag v hvlt]
            congr 1
            rcases hvd with ⟨hg, hvd⟩ | ⟨hg, x, hx, rfl⟩
            · rw [hg1 hg, hvd, hcs]
            · have := hg2 hg
              rw [hcs, hx] at this
              simp only [denL, List.cons.injEq, and_true] at this
              exact this.symm
          · rw [List.flatten_cons]
            exact he1.append he2 ag hle1 hle2 ha1
          · rw [look_append] at h
            split at h
            · rename_i y hy
              simp only [Option.some.injEq] at h
              subst h
              exact ha1 _ _ hy
            · exact ha2 _ _ h
        · cases h
      · cases h
    · cases h
end SX

/-
  SX: the step of any quiet operation; the memory behind it.
-/
namespace SX
open Go

def Fw (r : Option Nat) : Fence := { Fence.wide with round := r }

theorem callsFw {r : Option Nat} {n : Nat} {P : Program} {f : FuncId} {args : Array Value} {w : World} {R : Ending → World → Prop} (h : Calls P f args w R) : CallsIn (Fw r) n P f args w R :=
  callsIn_wide.2 h

/-- One step of an operation, in whatever round. -/
theorem wpIn_of_run {r : Option Nat} {P : Program} {o : Oper} {a : Act} {w w' : World} {v : Value} {K : Act → World → Prop} {Q : Exit → Act → World → Prop}
    (hno : ∀ c, o.op ≠ .defer c) (h : (execOp a.eval o).run P w = .ok (.value v) w') (hk : K (a.put o.dst v) w') : o.wpIn (Fw r) 0 P a w K Q := by
  refine ⟨fun _ _ => trivial, ?_⟩
  rw [Oper.semAt_eq _ _ _ hno, h]
  exact hk

theorem den_flat {ρ : Nat → Value} {n : Nat} {sv : SV} {v : Value} (h : Den ρ n sv v) : ltL ρ n (flat sv) := by
  rcases h with rfl | ⟨_, h⟩
  · exact ⟨trivial, trivial⟩
  · cases sv <;> first | exact h | exact ⟨h, trivial⟩

theorem argsD_rd {A : Ar} (hA : A = Ar.std) {ρ : Nat → Value} {m : Mm} {w : World} {R : Nat → Prop} :
    ∀ (ps : List (Bool × List Kd)) (svs : List SV) (vs : List Value) (ds : List (List D)),
      (∀ (j : Nat) (sv : SV), svs[j]? = some sv → ∃ v, vs[j]? = some v ∧ Den ρ m.next sv v) → svs.length = vs.length →
      (∀ sv ∈ svs, ∀ x ∈ flat sv, ∀ id s, slId x = some id → slOf m id = some s → RdK w R (.sl s.ks) (.ofL s.n s.f) (ρ id)) →
      aggOk ps svs = true → argsD A m ps svs = some ds → ArgsRd w R ps ds vs
  | [], [], vs, ds, _, hl, _, _, h => by
    have : vs = [] := List.length_eq_zero_iff.1 (by simpa using hl.symm)
    subst this
    simp only [argsD, Option.some.injEq] at h
    subst h
    simp [ArgsRd]
  | [], _ :: _, _, _, _, _, _, h, _ => by simp [aggOk] at h
  | (g, _) :: _, [], _, _, _, _, _, h, _ => by cases g <;> simp [aggOk] at h
  | (g, ks) :: ps, sv :: svs, [], ds, _, hl, _, _, _ => by simp at hl
  | (g, ks) :: ps, sv :: svs, v :: vs, ds, hd, hl, hsl, hag, h => by
    simp only [argsD] at h
    split at h
    · rename_i d hdl
      split at h
      · rename_i ds' hds
        simp only [Option.some.injEq] at h
        subst h
        obtain ⟨hlen1, hlen2⟩ := dList_len _ _ _ hdl
        have hrest : aggOk ps svs = true ∧ (g = true ↔ ∃ l, sv = .agg l) := by
          cases g with
          | true =>
            cases sv with
            | agg l => exact ⟨by simpa [aggOk] using hag, by simp⟩
            | _ => simp [aggOk] at hag
          | false =>
            cases sv with
            | agg l => simp [aggOk] at hag
            | _ => exact ⟨by simpa [aggOk] using hag, by simp⟩
        refine ⟨hlen2, ?_, argsD_rd hA ps svs vs ds' (fun j sv hj => by simpa using hd (j + 1) sv (by simpa using hj)) (by simpa using hl) (fun sv hsv => hsl sv (by simp [hsv])) hrest.1 hds⟩
        obtain ⟨v', hv', hden⟩ := hd 0 sv rfl
        simp only [List.getElem?_cons_zero, Option.some.injEq] at hv'
        subst hv'
        have hrd := dList_rd (w := w) (R := R) hA (ρ := ρ) ks (flat sv) d 0 (fun c => d.getD c .nil) (fun c => (denL ρ (flat sv))[c]?) (hsl sv (by simp)) (den_flat hden) hdl
          (fun j x hx => by simp [List.getD_eq_getElem?_getD, hx]) (fun j _ => by simp)
        refine ⟨denL ρ (flat sv), fun hg => ?_, fun hg => ?_, by rw [denL_length, hlen1], hrd⟩
        · obtain ⟨l, rfl⟩ := hrest.2.1 hg
          exact (den_agg hden).1
        · have hnot : ∀ l, sv ≠ .agg l := fun l hl => by
            have := hrest.2.2 ⟨l, hl⟩
            rw [hg] at this; cases this
          have hfl : flat sv = [sv] := by
            cases sv with
            | agg l => exact absurd rfl (hnot l)
            | _ => rfl
          rw [hfl]
          simp only [denL]
          rcases hden with hu | ⟨hv, _⟩
          · subst hu
            rw [hfl] at hdl
            exfalso
            cases ks with
            | nil => simp [dList] at hdl
            | cons k ks =>
              simp only [dList] at hdl
              split at hdl
              · rename_i hf
                unfold fits at hf
                split at hf <;> first | (simp at hf; done) | (rename_i heq; cases heq) | (rename_i heq _; cases heq) | skip
              · cases hdl
          · rw [hv]
      · cases h
    · cases h

/-- What a call returns, as symbolic values. -/
theorem resSV_ok {w : World} {R : Nat → Prop} {f : Nat → Nat → D} : ∀ (rs : List (Bool × List Kd)) (i nx : Nat) (ρ : Nat → Value) {vs : List SV} {l : List (Nat × Sl)} {nx' : Nat} {us : List Value},
    resSV Ar.std f rs i nx = some (vs, l, nx') → ResRd w R f rs i us →
    ∃ ρ', nx ≤ nx' ∧ (∀ i, (i < nx ∨ nx' ≤ i) → ρ' i = ρ i) ∧ ltL ρ' nx' vs ∧ us = denL ρ' vs ∧
      (∀ id s, look l id = some s → (nx ≤ id ∧ id < nx') ∧ RdK w R (.sl s.ks) (.ofL s.n s.f) (ρ' id))
  | [], i, nx, ρ, vs, l, nx', us, h, hr => by
    simp only [resSV, Option.some.injEq, Prod.mk.injEq] at h
    obtain ⟨rfl, rfl, rfl⟩ := h
    cases us with
    | nil => exact ⟨ρ, Nat.le_refl _, fun _ _ => rfl, trivial, rfl, fun id s h => by simp [look] at h⟩
    | cons u us => simp [ResRd] at hr
  | (g, ks) :: rs, i, nx, ρ, vs, l, nx', [], h, hr => by simp [ResRd] at hr
  | (g, ks) :: rs, i, nx, ρ, vs, l, nx', u :: us, h, hr => by
    simp only [resSV] at h
    split at h
    · rename_i vs1 l1 nx1 hmk
      split at h
      · rename_i v hv
        split at h
        · rename_i ws l2 nx2 hrs
          simp only [Option.some.injEq, Prod.mk.injEq] at h
          obtain ⟨rfl, rfl, rfl⟩ := h
          simp only [ResRd] at hr
          obtain ⟨⟨cs, hg1, hg2, hcl, hrd⟩, hrest⟩ := hr
          obtain ⟨ρ1, hle1, hag1, hlt1, hlen1, hden1, _, hro1⟩ := mkCells_ok ks (f i) 0 nx _ ρ hmk hrd
          have hcs : cs = denL ρ1 vs1 := by
            apply List.ext_getElem?
            intro j
            by_cases hj : j < ks.length
            · have := hden1 j hj
              simpa using this
            · rw [List.getElem?_eq_none (by omega), List.getElem?_eq_none (by rw [denL_length]; omega)]
          obtain ⟨hvlt, hvd⟩ := pack_ok hv hlt1
          obtain ⟨ρ2, hle2, hag2, hlt2, hus, hro2⟩ := resSV_ok rs (i + 1) nx1 ρ1 hrs hrest
          have ag : agree nx1 ρ1 ρ2 := fun i hi => hag2 i (.inl hi)
          refine ⟨ρ2, Nat.le_trans hle1 hle2, fun i hi => by rw [hag2 i (by omega), hag1 i (by omega)], ⟨SV.lt_mono hle2 ag v hvlt, hlt2⟩, ?_, ?_⟩
          · simp only [denL]
            rw [hus, den_congr ag v hvlt]
            congr 1
            rcases hvd with ⟨hg, hvd⟩ | ⟨hg, x, hx, rfl⟩
            · rw [hg1 hg, hvd, hcs]
            · have := hg2 hg
              rw [hcs, hx] at this
              simp only [denL, List.cons.injEq, and_true] at this
              exact this.symm
          · intro id s hs
            rw [look_append] at hs
            split at hs
            · rename_i x hx
              simp only [Option.some.injEq] at hs
              subst hs
              obtain ⟨⟨h1, h2⟩, h3⟩ := hro1 id x hx
              exact ⟨⟨h1, by omega⟩, by rw [hag2 id (.inl h2)]; exact h3⟩
            · obtain ⟨⟨h1, h2⟩, h3⟩ := hro2 id s hs
              exact ⟨⟨by omega, h2⟩, h3⟩
        · cases h
      · cases h
    · cases h

section
variable {P : Program} {E : Env} (hE : EnvOk E P) {ρ : Nat → Value} {R : Nat → Prop} {m : Mm} {w : World} (hM : SatM ρ R m w) {q : QR} {r : Option Nat}

/-- Everything that is owned may be read. -/
def Rall (ρ : Nat → Value) (R : Nat → Prop) (m : Mm) : Nat → Prop := fun b => R b ∨ ∃ id x, look m.mem id = some x ∧ x ≠ .gone ∧ ownB (ρ id) = some b

theorem Rall_lt (hM : SatM ρ R m w) : ∀ b, Rall ρ R m b → b < w.heap.size := by
  rintro b (h | ⟨id, x, hx, hg, hb⟩)
  · exact hM.Rlt b h
  · obtain ⟨_, hr⟩ := hM.mem _ _ hx
    cases x with
    | gone => exact absurd rfl hg
    | cells l =>
      obtain ⟨_, _, b', tt, hρ, hh⟩ := hr
      rw [hρ] at hb
      simp only [ownB, Option.some.injEq] at hb
      subst hb
      exact (Array.getElem?_eq_some_iff.1 hh).1
    | arr ex s =>
      rcases hr with ⟨_, hρ⟩ | ⟨b', cap, cur, ty, hρ, _, _, _, hh, _⟩
      · rw [hρ] at hb; cases hb
      · rw [hρ] at hb
        simp only [ownB, Option.some.injEq] at hb
        subst hb
        exact (Array.getElem?_eq_some_iff.1 hh).1

theorem sl_rdAll (hM : SatM ρ R m w) {id : Nat} {s : Sl} (h : slOf m id = some s) : RdK w (Rall ρ R m) (.sl s.ks) (.ofL s.n s.f) (ρ id) := by
  unfold slOf at h
  split at h
  · rename_i s' hs
    simp only [Option.some.injEq] at h
    subst h
    exact RdK_mono (fun _ _ => rfl) (fun _ h => .inl h) _ _ _ (hM.ro _ _ hs).2
  · split at h
    · rename_i ex s' hs
      simp only [Option.some.injEq] at h
      subst h
      obtain ⟨_, hr⟩ := hM.mem _ _ hs
      simp only [RdK, D.ofL, D.n, D.row]
      rcases hr with ⟨hn, hv⟩ | ⟨b, cap, cur, ty, hv, h1, _, h3, hh, hsz, hrow⟩
      · exact ⟨none, 0, by rw [hv, hn], by omega, by simp [maxLen], fun r hr => by omega⟩
      · refine ⟨some ⟨b, 0, none⟩, cap, hv, h1, h3, fun r hr => ⟨_, rfl, .inr ⟨id, _, hs, by simp, by rw [hv]; rfl⟩, ?_⟩⟩
        refine RdKs_mono (w := w) (R := R) (fun _ _ => rfl) (fun _ h => .inl h) _ _ _ _ 0 (fun c => ?_) (hrow r hr)
        rw [add0, cell_of_row w b _ cur ty (0, 0) hh]
    · cases h

include hE hM

theorem call_ok {a : Act} {o : Oper} {ev : Operand → SV} (hev : ∀ x, Den ρ m.next (ev x) (a.eval x)) {c : Call} (ho : o.op = .call c) {f : Nat} (hc : c.callee = .value (.func f))
    (hq : xcall E m f (c.args.toList.map ev) = some q) (hp : ∀ p, q.pre = some p → p) {K : Act → World → Prop} {Q : Exit → Act → World → Prop}
    (hk : ∀ v ρ' R' w', QOk ρ R m w q v ρ' R' w' → K (a.put o.dst v) w') : o.wpIn (Fw r) 0 P a w K Q := by
  unfold xcall at hq
  split at hq
  · rename_i sg hsg
    obtain ⟨hpure, fn, hfn, hbody, hname⟩ := hE.sig f sg hsg
    have hrun : (execOp a.eval o).run P w = .ok (.enter f (c.args.map a.eval)) w := by
      have hname' : ¬ fn.name = "runtime.NumGoroutine" := by simpa using hname
      simp [execOp, ho, resolve, hc, Act.eval, Deferred.ofValue, invoke, callFunc, hfn, hname', Option.isNone_iff_eq_none, Option.isSome_iff_ne_none.1 hbody]
    split at hq
    · rename_i hfr
      have hpureF := hE.fr f sg hsg hfr
      split at hq
      · rename_i hag
        split at hq
        · rename_i ds hds
          split at hq
          · rename_i vs l nx hres
            simp only [Option.some.injEq] at hq
            have hpre := hp _ (by rw [← hq])
            refine ⟨fun _ _ => trivial, ?_⟩
            rw [Oper.semAt_eq _ _ _ (by rw [ho]; intro c; simp), hrun]
            refine ⟨by simp [Fw, Fence.wide], callsFw ?_⟩
            have hargs : (c.args.toList.map a.eval).toArray = c.args.map a.eval := by apply Array.ext'; simp
            rw [← hargs]
            have hard := argsD_rd hE.A (w := w) (R := Rall ρ R m) sg.params _ _ ds (den_map hev c.args.toList) (by simp) (fun _ _ _ _ id s _ hs => sl_rdAll hM hs) hag hds
            refine (hpureF w _ _ ds (Rall_lt hM) hard hpre).mono ?_
            rintro e w' ⟨us, css, rfl, hgrow, hsh, hrd, hap⟩
            obtain ⟨ρ', hle, hag', hlt', hus, he, _⟩ := resSVF_ok sg.results 0 m.next css us ρ (by rw [← hE.A]; exact hres) hrd hsh
            have hval : Den ρ' nx (one vs) (oneVal us) := by
              rw [hus]
              match vs, hlt' with
              | [], _ => exact Den.mk rfl trivial
              | [x], h => exact Den.mk rfl h.1
              | x :: y :: r, h => exact Den.mk rfl h
            refine hk _ ρ' R w' ?_
            subst hq
            refine ⟨hval, hag', hle, hgrow, fun _ h => h, fun _ h => .inl h, fun id r h => ?_, fun id r id' r' h h' hne => he.two hap id r id' r' h h' hne, fun _ _ h => by simp [look] at h⟩
            obtain ⟨h1, h2, _, h4⟩ := he.one id r h
            exact ⟨h1, h2 _ _, fun b hb => ⟨(h4 b hb).1, (h4 b hb).2, fun hR => by have := hM.Rlt b hR; have := (h4 b hb).1; omega⟩⟩
          · cases hq
        · cases hq
      · cases hq
    · split at hq
      · rename_i hag
        simp only [Bool.and_eq_true, Bool.or_eq_true] at hag
        obtain ⟨hag, hsafe⟩ := hag
        split at hq
        · rename_i ds hds
          split at hq
          · rename_i vs l nx hres
            simp only [Option.some.injEq] at hq
            have hpre := hp _ (by rw [← hq])
            refine ⟨fun _ _ => trivial, ?_⟩
            rw [Oper.semAt_eq _ _ _ (by rw [ho]; intro c; simp), hrun]
            refine ⟨by simp [Fw, Fence.wide], callsFw ?_⟩
            have hargs : (c.args.toList.map a.eval).toArray = c.args.map a.eval := by apply Array.ext'; simp
            rw [← hargs]
            -- which memory is read: with slices among the results, what is only read alone
            have main : ∀ R0 : Nat → Prop, (∀ b, R b → R0 b) → (∀ b, R0 b → b < w.heap.size) → (∀ sv ∈ c.args.toList.map ev, ∀ x ∈ flat sv, ∀ id s, slId x = some id → slOf m id = some s → RdK w R0 (.sl s.ks) (.ofL s.n s.f) (ρ id)) →
                ((∀ b, R0 b → R b) ∨ (sg.results.all fun r => r.2.all scalarK) = true) →
                Calls P f (c.args.toList.map a.eval).toArray w (fun
                  | .returned v, w'' => K (a.put o.dst v) w''
                  | .panicked chain, w'' => Q (.panic chain) a w''
                  | .outgrown, _ => LetsOut Q) := by
              intro R0 hR0 hlt hsl hsc
              have hard := argsD_rd hE.A (w := w) (R := R0) sg.params _ _ ds (den_map hev c.args.toList) (by simp) hsl hag hds
              refine (hpure w R0 _ ds hlt hard hpre).mono ?_
              rintro e w' ⟨us, R', rfl, hgrow, hsub, hsub', hrd⟩
              -- the reading of the results within what the caller keeps
              have hrd' : ResRd w' (fun b => R b ∨ (R' b ∧ w.heap.size ≤ b)) (E.fn f ds) sg.results 0 us := by
                rcases hsc with hsc | hsc
                · exact resRd_mono (fun b hb => by
                    rcases hsub' b hb with h | ⟨h, _⟩
                    · exact .inl (hsc b h)
                    · exact .inr ⟨hb, h⟩) _ _ _ hrd
                · exact resRd_scalar _ _ _ hsc hrd
              obtain ⟨ρ', hle, hag', hlt', hus, hro⟩ := resSV_ok sg.results 0 m.next ρ (by rw [← hE.A]; exact hres) hrd'
              have hval : Den ρ' nx (one vs) (oneVal us) := by
                rw [hus]
                match vs, hlt' with
                | [], _ => exact Den.mk rfl trivial
                | [x], h => exact Den.mk rfl h.1
                | x :: y :: r, h => exact Den.mk rfl h
              refine hk _ ρ' (fun b => R b ∨ (R' b ∧ w.heap.size ≤ b)) w' ?_
              subst hq
              refine ⟨hval, hag', hle, hgrow, fun _ h => .inl h, ?_, fun _ _ h => by simp [look] at h, fun _ _ _ _ h => by simp [look] at h, hro⟩
              rintro b (h | ⟨h, h'⟩)
              · exact .inl h
              · rcases hsub' b h with h2 | h2
                · exact absurd (hlt b h2) (by omega)
                · exact .inr h2
            rcases hsafe with hsafe | hsafe
            · exact main (Rall ρ R m) (fun _ h => .inl h) (Rall_lt hM) (fun _ _ _ _ id s _ hs => sl_rdAll hM hs) (.inr hsafe)
            · refine main R (fun _ h => h) hM.Rlt (fun sv hsv x hx id s hxe hs => ?_) (.inl fun _ h => h)
              have h1 := List.all_eq_true.1 (List.all_eq_true.1 hsafe sv hsv) x hx
              have hro : ∃ s', look m.ro id = some s' := by
                unfold slId at hxe
                split at hxe
                · simp only [Option.some.injEq] at hxe
                  subst hxe
                  simp only at h1
                  split at h1
                  · rename_i s' hs'
                    exact ⟨s', hs'⟩
                  · cases h1
                · simp only [Option.some.injEq] at hxe
                  subst hxe
                  simp only at h1
                  split at h1
                  · rename_i s' hs'
                    exact ⟨s', hs'⟩
                  · cases h1
                · cases hxe
              obtain ⟨s', hs'⟩ := hro
              simp only [slOf, hs', Option.some.injEq] at hs
              subst hs
              exact (hM.ro _ _ hs').2
          · cases hq
        · cases hq
      · cases hq
  · cases hq
where
  resRd_mono {w' : World} {R R' : Nat → Prop} {f : Nat → Nat → D} (hR : ∀ b, R b → R' b) : ∀ (rs : List (Bool × List Kd)) (i : Nat) (us : List Value), ResRd w' R f rs i us → ResRd w' R' f rs i us
    | [], i, [], _ => by simp [ResRd]
    | [], i, _ :: _, h => by simp [ResRd] at h
    | (g, ks) :: rs, i, [], h => by simp [ResRd] at h
    | (g, ks) :: rs, i, u :: us, h => by
      simp only [ResRd] at h ⊢
      obtain ⟨⟨cs, h1, h2, h3, h4⟩, hr⟩ := h
      exact ⟨⟨cs, h1, h2, h3, RdKs_mono (fun _ _ => rfl) hR _ _ _ _ 0 (fun _ => rfl) h4⟩, resRd_mono hR rs (i + 1) us hr⟩
  rdKs_scalar {w' : World} {R R' : Nat → Prop} : ∀ (ks : List Kd) (f : Nat → D) (g : Nat → Option Value) (c : Nat), ks.all scalarK = true → RdKs w' R ks f g c → RdKs w' R' ks f g c
    | [], _, _, _, _, _ => by simp [RdKs]
    | k :: ks, f, g, c, hs, h => by
      simp only [RdKs, List.all_cons, Bool.and_eq_true] at h hs ⊢
      obtain ⟨⟨u, hu, hk⟩, hr⟩ := h
      refine ⟨⟨u, hu, ?_⟩, rdKs_scalar ks f g (c + 1) hs.2 hr⟩
      cases k with
      | sl ks => simp [scalarK] at hs
      | raw v => simp [scalarK] at hs
      | _ => simpa [RdK] using hk
  resRd_scalar {w' : World} {R R' : Nat → Prop} {f : Nat → Nat → D} : ∀ (rs : List (Bool × List Kd)) (i : Nat) (us : List Value), (rs.all fun r => r.2.all scalarK) = true → ResRd w' R f rs i us → ResRd w' R' f rs i us
    | [], i, [], _, _ => by simp [ResRd]
    | [], i, _ :: _, _, h => by simp [ResRd] at h
    | (g, ks) :: rs, i, [], _, h => by simp [ResRd] at h
    | (g, ks) :: rs, i, u :: us, hs, h => by
      simp only [ResRd, List.all_cons, Bool.and_eq_true] at h hs ⊢
      obtain ⟨⟨cs, h1, h2, h3, h4⟩, hr⟩ := h
      exact ⟨⟨cs, h1, h2, h3, rdKs_scalar _ _ _ 0 hs.1 h4⟩, resRd_scalar rs (i + 1) us hs.2 hr⟩

/-- All quiet operations. -/
theorem xq_ok {a : Act} {o : Oper} {ev : Operand → SV} (hev : ∀ x, Den ρ m.next (ev x) (a.eval x)) (hq : xq E m ev o.op = some q) (hp : ∀ p, q.pre = some p → p)
    {K : Act → World → Prop} {Q : Exit → Act → World → Prop} (hk : ∀ v ρ' R' w', QOk ρ R m w q v ρ' R' w' → K (a.put o.dst v) w') : o.wpIn (Fw r) 0 P a w K Q := by
  have hdef : ∀ c, o.op ≠ .defer c := by
    intro c h
    rw [h] at hq
    simp [xq] at hq
  have plainCase : (∀ c, o.op = .call c → ∃ b, c.callee = .builtin b) → o.wpIn (Fw r) 0 P a w K Q := by
    intro hno
    obtain ⟨v, ρ', R', w', hr, hok⟩ := xq_plain hE hM hev (fun _ => rfl) hno hq hp
    exact wpIn_of_run hdef hr (hk _ _ _ _ hok)
  by_cases hcall : ∃ c f, o.op = .call c ∧ c.callee = .value (.func f)
  · obtain ⟨c, f, ho, hc⟩ := hcall
    refine call_ok hE hM hev ho hc ?_ hp hk
    rw [ho] at hq
    simpa only [xq, hc] using hq
  · refine plainCase fun c ho => ?_
    rw [ho] at hq
    cases hc : c.callee with
    | builtin b => exact ⟨b, rfl⟩
    | invoke x n => simp [xq, hc] at hq
    | value x =>
      cases x with
      | func f => exact absurd ⟨c, f, ho, hc⟩ hcall
      | _ => simp [xq, hc] at hq
end

/-- Memory with what a quiet operation has brought. -/
def addM (m : Mm) (q : QR) : Mm := ⟨q.mem ++ m.mem, q.ro ++ m.ro, q.next⟩

theorem ResOk_mono {ρ ρ' : Nat → Value} {R R' : Nat → Prop} {w w' : World} {n n' id : Nat} {x : Res} (hn : n ≤ n') (ha : agree n ρ ρ') (hid : id < n) (hR : ∀ b, R b → R' b)
    (hkeep : ∀ b, R b → w'.heap[b]? = w.heap[b]?) (hown : x ≠ .gone → ∀ b, ownB (ρ id) = some b → w'.heap[b]? = w.heap[b]?)
    (h : ResOk ρ R w n id x) : ResOk ρ' R' w' n' id x := by
  cases x with
  | gone => trivial
  | cells l =>
    obtain ⟨h1, h2, b, tt, hρ, hh⟩ := h
    refine ⟨ltL_mono hn ha l h1, h2, b, tt, by rw [ha id hid, hρ], ?_⟩
    rw [hown (by simp) b (by rw [hρ]; rfl), hh, denL_congr ha l h1]
  | arr ex s =>
    rcases h with ⟨hn0, hρ⟩ | ⟨b, cap, cur, ty, hρ, h1, h2, h3, hh, h4, h5⟩
    · exact .inl ⟨hn0, by rw [ha id hid, hρ]⟩
    · exact .inr ⟨b, cap, cur, ty, by rw [ha id hid, hρ], h1, h2, h3, by rw [hown (by simp) b (by rw [hρ]; rfl), hh], h4, RowOk.mono hkeep hR h5⟩

theorem own_lt {ρ : Nat → Value} {R : Nat → Prop} {m : Mm} {w : World} (hM : SatM ρ R m w) {id : Nat} {x : Res} (hx : look m.mem id = some x) (hg : x ≠ .gone) {b : Nat} (hb : ownB (ρ id) = some b) : b < w.heap.size :=
  Rall_lt hM b (.inr ⟨id, x, hx, hg, hb⟩)

/-- The memory behind a quiet operation; m0: all that is there, of which the operation looked at a part. -/
theorem SatM.addQ {ρ ρ' : Nat → Value} {R R' : Nat → Prop} {m : Mm} {w w' : World} {q : QR} {v : Value} (hM : SatM ρ R m w) (hq : QOk ρ R m w q v ρ' R' w') : SatM ρ' R' (addM m q) w' := by
  have ag : agree m.next ρ ρ' := fun i hi => hq.ag i (.inl hi)
  have hk : ∀ b, R b → w'.heap[b]? = w.heap[b]? := fun b hb => hq.grow.keep b (hM.Rlt b hb)
  -- what an entry is: new or old
  have parts : ∀ id x, look (addM m q).mem id = some x → (look q.mem id = some x) ∨ (look q.mem id = none ∧ look m.mem id = some x) := by
    intro id x h
    simp only [addM, look_append] at h
    split at h
    · rename_i y hy
      simp only [Option.some.injEq] at h
      subst h
      exact .inl hy
    · rename_i hy
      exact .inr ⟨hy, h⟩
  refine ⟨?_, ?_, ?_, ?_, ?_⟩
  · intro id x h
    rcases parts id x h with h | ⟨_, h⟩
    · obtain ⟨⟨_, h1⟩, h2, _⟩ := hq.mem id x h
      exact ⟨h1, h2⟩
    · obtain ⟨h1, h2⟩ := hM.mem id x h
      exact ⟨Nat.lt_of_lt_of_le h1 hq.le, ResOk_mono hq.le ag h1 hq.sub hk (fun hg b hb => hq.grow.keep b (own_lt hM h hg hb)) h2⟩
  · intro id x h hg b hb
    rcases parts id x h with h | ⟨_, h⟩
    · exact ((hq.mem id x h).2.2 b hb).2.2
    · rw [ag id (hM.mem id x h).1] at hb
      intro hR
      rcases hq.sub' b hR with h2 | ⟨h2, _⟩
      · exact hM.sep1 id x h hg b hb h2
      · have := own_lt hM h hg hb; omega
  · intro id x id' x' hne h h' hg hg' b hb
    rcases parts id x h with h | ⟨_, h⟩ <;> rcases parts id' x' h' with h' | ⟨_, h'⟩
    · exact hq.mem1 _ _ _ _ h h' hne b hb
    · have h1 := ((hq.mem id x h).2.2 b hb).1
      rw [ag id' (hM.mem id' x' h').1]
      intro hb'
      have := own_lt hM h' hg' hb'; omega
    · rw [ag id (hM.mem id x h).1] at hb
      intro hb'
      have h1 := ((hq.mem id' x' h').2.2 b hb').1
      have := own_lt hM h hg hb; omega
    · rw [ag id (hM.mem id x h).1] at hb
      rw [ag id' (hM.mem id' x' h').1]
      exact hM.sep2 id x id' x' hne h h' hg hg' b hb
  · intro id s h
    simp only [addM, look_append] at h
    split at h
    · rename_i y hy
      simp only [Option.some.injEq] at h
      subst h
      obtain ⟨⟨_, h1⟩, h2⟩ := hq.ro id y hy
      exact ⟨h1, h2⟩
    · obtain ⟨h1, h2⟩ := hM.ro id s h
      refine ⟨Nat.lt_of_lt_of_le h1 hq.le, ?_⟩
      rw [ag id h1]
      exact RdK_mono hk hq.sub _ _ _ h2
  · intro b hb
    rcases hq.sub' b hb with h | ⟨_, h⟩
    · exact Nat.lt_of_lt_of_le (hM.Rlt b h) hq.grow.size
    · exact h
end SX
