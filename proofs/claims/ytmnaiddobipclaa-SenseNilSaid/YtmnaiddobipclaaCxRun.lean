/-
  CX: the executor: regions, also those that draw their order; code; calls.
-/
import Derived.Test.YtmnaiddobipclaaCxDefs
namespace CX
open Go
noncomputable section

def putD (S : St) (dst : Option Nat) (v : V) (h : T O) (nx : Nat) (k : St → R) : R :=
  match dst with
  | none => k ⟨S.nt, S.bar, S.regs, h, nx, S.df⟩
  | some d => match Nat.blt d S.nt with
    | true => S.regs.set d (some v) fun regs => k ⟨S.nt, S.bar, regs, h, nx, S.df⟩
    | false => none

def enterRegs : List V → Nat → T V → (T V → R) → R
  | [], _, t, k => k t
  | v :: l, i, t, k => t.set i (some v) fun t => enterRegs l (Nat.succ i) t k

def resultsX (E : Env) (regs : T V) (h : T O) : List ResultVar → (List V → R) → R
  | [], k => k []
  | .tmp t :: r, k => match regs.get t with
    | some v => resultsX E regs h r fun l => k (v :: l)
    | none => none
  | .cell a t :: r, k => match E.T t, regs.get a with
    | some ty, some (.ptr id off) => match h.get id with
      | some (.cells c n) => match Nat.ble (Nat.add off ty.size) n with
        | true => rd c off ty.size fun l => packR ty.agg l fun v => resultsX E regs h r fun l => k (v :: l)
        | false => none
      | _ => none
    | _, _ => none

def one (l : List V) : V :=
  match l with
  | [x] => x
  | l => .tup l

def takeDf (bar : Nat) : List Nat → T O → (T O → R) → R
  | [], h, k => k h
  | d :: r, h, k => match h.get d, geB bar d with
    | some (.dfr true), true => h.set d (some (.dfr false)) fun h => takeDf bar r h k
    | _, _ => none

def paramsX (nt : Nat) : List Nat → List V → T V → (T V → R) → R
  | [], [], t, k => k t
  | p :: ps, v :: vs, t, k => match Nat.blt p nt with
    | true => t.set p (some v) fun t => paramsX nt ps vs t k
    | false => none
  | _, _, _, _ => none

def retV (v : V) (h : T O) (nx : Nat) : R := some (.normal, ⟨0, 0, .n .e (some v) .e, h, nx, []⟩)

def outV {β : Type} (x : R) (k : V → T O → Nat → Option β) : Option β :=
  match x with
  | some (_, ⟨_, _, .n _ (some v) _, h, nx, _⟩) => k v h nx
  | _ => none

abbrev IH := Option Nat → Code → St → R

def callF (E : Env) (ih : IH) (bar : Nat) (h : T O) (nx : Nat) (f : Nat) (args : List V) (k : V → T O → Nat → R) : R :=
  match E.fn f with
  | some fn => match fn.body, Nat.ble (len args) fn.ntmps with
    | some c, true => enterRegs args 0 .e fun regs => match ih none c ⟨fn.ntmps, bar, regs, h, nx, []⟩ with
      | some (.normal, ⟨_, _, regs, h, nx, df⟩) => outV (takeDf bar df h fun h => resultsX E regs h fn.results.toList fun l => retV (one l) h nx) k
      | some (.ret, ⟨_, _, regs, h, nx, df⟩) => outV (takeDf bar df h fun h => resultsX E regs h fn.results.toList fun l => retV (one l) h nx) k
      | _ => none
    | _, _ => none
  | none => none

def setLoop (bar : Nat) (h : T O) (id : Nat) (st : LoopState) (jump : Option Code) (k : T O → R) : R :=
  match h.get id, geB bar id with
  | some (.loop _ _ nt regs ps a b df), true => h.set id (some (.loop st jump nt regs ps a b df)) k
  | _, _ => none

def callY (ih : IH) (bar : Nat) (h : T O) (nx : Nat) (id : Nat) (args : List V) (k : V → T O → Nat → R) : R :=
  match h.get id with
  | some (.loop .ready _ nt regs ps assign body _) => paramsX nt ps args regs fun regs => match ih (some id) assign ⟨nt, bar, regs, h, nx, []⟩ with
    | some (.normal, ⟨_, _, regs, h, nx, df⟩) => match h.get id, geB bar id with
     | some (.loop .ready j nt' regs' ps' a' b' df'), true => h.set id (some (.loop .busy j nt' regs' ps' a' b' df')) fun h => match ih (some id) body ⟨nt, bar, regs, h, nx, df⟩ with
      | some (.normal, ⟨_, _, _, h, nx, _⟩) => outV (setLoop bar h id .ready none fun h => retV (.bool true) h nx) k
      | some (.ret, ⟨_, _, _, h, nx, _⟩) => outV (setLoop bar h id .done (some .ret) fun h => retV (.bool false) h nx) k
      | some (.exit e, ⟨_, _, _, h, nx, _⟩) => outV (setLoop bar h id .done (some (.exit e)) fun h => retV (.bool false) h nx) k
      | none => none
     | _, _ => none
    | _ => none
  | _ => none

def callV (E : Env) (ih : IH) (bar : Nat) (h : T O) (nx : Nat) (f : V) (args : List V) (k : V → T O → Nat → R) : R :=
  match f with
  | .fn (.func f) a b => callF E ih bar h nx f (a ++ args ++ b) k
  | .fn (.yield id) [] [] => callY ih bar h nx id args k
  | _ => none

/-- Any operation. -/
def opA (E : Env) (ih : IH) (bar : Nat) (ev : Operand → Option V) (h : T O) (nx : Nat) (op : Op) (k : V → T O → Nat → R) : R :=
  match clsOf E op with
  | 0 => opP E ev op fun v => k v h nx
  | 1 => opL E h ev op fun v => k v h nx
  | 2 => opM E bar ev h nx op k
  | 3 => match op with
    | .call c => match c.callee with
      | .value f => match ev f with
        | some f => evL ev c.args.toList fun args => callV E ih bar h nx f args k
        | none => none
      | _ => none
    | _ => none
  | _ => none

/-- Is an operation wanted? -/
def wantX (regs : T V) (all : List Oper) (o : Oper) (k : Bool → R) : R :=
  match o.guard with
  | none => k true
  | some (g, want) => match nth all g with
    | some og => match og.dst with
      | some d => match regs.get d with
        | some (.bool b) => match b, want with
          | true, true => k true
          | false, false => k true
          | _, _ => k false
        | some (.tup []) => k false
        | _ => none
      | none => none
    | none => none

def seqOps (E : Env) (ih : IH) (all : List Oper) : List Oper → St → (St → R) → R
  | [], S, k => k S
  | o :: r, S, k => wantX S.regs all o fun b => match b with
    | true => opA E ih S.bar (evR S.regs) S.h S.nx o.op fun v h nx => putD S o.dst v h nx fun S => seqOps E ih all r S k
    | false => putD S o.dst (.tup []) S.h S.nx fun S => seqOps E ih all r S k

/-! ### Regions that draw their order -/

def bindsA (e : Edge) : Bool :=
  match e.ground with
  | .textOnly _ => false
  | .gcOnly _ => false
  | _ => true

/-- The operations that come before, as bits. -/
def maskOf {β : Type} (cl : T Nat) : List Edge → Nat → (Nat → Option β) → Option β
  | [], acc, k => k acc
  | e :: r, acc, k => match bindsA e with
    | false => maskOf cl r acc k
    | true => match cl.get e.on with
      | some m => fN (Nat.lor acc (Nat.lor m (Nat.shiftLeft 1 e.on))) fun acc => maskOf cl r acc k
      | none => none

/-- Of each operation what comes before; of each slot that is written, by which. -/
def prep {β : Type} : List Oper → Nat → T Nat → T Nat → (T Nat → T Nat → Option β) → Option β
  | [], _, ms, dm, k => k ms dm
  | o :: r, i, ms, dm, k => maskOf ms o.after.toList 0 fun m => ms.set i (some m) fun ms => match o.dst with
    | none => prep r (Nat.succ i) ms dm k
    | some d => match dm.get d with
      | none => dm.set d (some i) fun dm => prep r (Nat.succ i) ms dm k
      | some _ => none

def bit (m i : Nat) : Bool := Nat.beq (Nat.land (Nat.shiftRight m i) 1) 1

/-- The memory that an operation looks at or writes: names of objects. -/
def foot1 (ev : Operand → Option V) (x : Operand) : Option (List Nat) :=
  match ev x with
  | some (.ptr id _) => some [id]
  | some (.slc id _ _ _ _) => some [id]
  | some (.map id) => some [id]
  | some _ => some []
  | none => none

def foot (ev : Operand → Option V) (op : Op) : Option (List Nat) :=
  match op with
  | .load _ x => foot1 ev x
  | .lookup _ x _ _ => foot1 ev x
  | .convert _ _ x => foot1 ev x
  | .store _ x _ => foot1 ev x
  | .mapUpdate _ x _ _ => foot1 ev x
  | .call c => match c.args.toList with
    | [x] => foot1 ev x
    | [x, y] => match foot1 ev x, foot1 ev y with
      | some a, some b => some (a ++ b)
      | _, _ => none
    | _ => none
  | _ => some []

/-- Which memory an operation is given: all; all that was there, to look at; some objects (and whether it may write them). -/
inductive Fp where
  | all
  | q
  | ls (F : List Nat) (wr : Bool)

structure Rc where
  i : Nat
  fp : Fp
  lo : Nat
  hi : Nat

def memN (x : Nat) : List Nat → Bool
  | [] => false
  | y :: r => match Nat.beq x y with
    | true => true
    | false => memN x r

def disj : List Nat → List Nat → Bool
  | [], _ => true
  | x :: r, l => match memN x l with
    | true => false
    | false => disj r l

def outs (lo hi : Nat) : List Nat → Bool
  | [] => true
  | x :: r => match Nat.ble lo x && Nat.blt x hi with
    | true => false
    | false => outs lo hi r

def isNil : List Nat → Bool
  | [] => true
  | _ => false

/-- May two operations stand beside each other, neither before the other? -/
def pairOk (fp : Fp) (r : Rc) : Bool :=
  match fp with
  | .all => false
  | .q => match r.fp with
    | .all => false
    | .q => true
    | .ls F wr => match wr with
      | true => isNil F
      | false => true
  | .ls F wr => match r.fp with
    | .all => false
    | .q => match wr with
      | true => isNil F
      | false => outs r.lo r.hi F
    | .ls F' wr' => match outs r.lo r.hi F with
      | false => false
      | true => match wr, wr' with
        | false, false => true
        | _, _ => disj F F'

def fits (cl : Nat) (fp : Fp) : List Rc → Bool
  | [] => true
  | r :: rs => match bit cl r.i with
    | true => fits cl fp rs
    | false => match pairOk fp r with
      | true => fits cl fp rs
      | false => false

def below (nx : Nat) : List Nat → Bool
  | [] => true
  | x :: r => match Nat.blt x nx with
    | true => below nx r
    | false => false

def belowF (nx : Nat) : Fp → Bool
  | .ls F _ => below nx F
  | _ => true

def geL (bar : Nat) : List Nat → List Nat
  | [] => []
  | x :: r => match Nat.ble bar x with
    | true => x :: geL bar r
    | false => geL bar r

/-- The part of a memory with some names. -/
def part {β : Type} (h : T O) : List Nat → T O → (T O → β) → β
  | [], t, k => k t
  | x :: r, t, k => t.set x (h.get x) fun t => part h r t k

/-- Put what another memory has at names from lo, n of them. -/
def copyN {β : Type} (g : T O) : Nat → Nat → T O → (T O → β) → β
  | _, 0, h, k => k h
  | lo, n + 1, h, k => h.set lo (g.get lo) fun h => copyN g (Nat.succ lo) n h k

def dropN {β : Type} (lo : Nat) : Nat → T O → (T O → β) → β
  | 0, h, k => k h
  | n + 1, h, k => h.set lo none fun h => dropN (Nat.succ lo) n h k

/-- The memory without what those have made that are not ordered against an operation. -/
def without {β : Type} (cl : Nat) : List Rc → T O → (T O → β) → β
  | [], h, k => k h
  | r :: rs, h, k => match bit cl r.i with
    | true => without cl rs h k
    | false => dropN r.lo (Nat.sub r.hi r.lo) h fun h => without cl rs h k

def viewX {β : Type} (cl : Nat) (recs : List Rc) (fp : Fp) (h : T O) (bar nx : Nat) (k : T O → Nat → β) : β :=
  match fp with
  | .all => k h bar
  | .q => without cl recs h fun h => k h nx
  | .ls F wr => part h F .e fun h => match wr with
    | true => k h bar
    | false => k h nx

def mergeX {β : Type} (fp : Fp) (h h' : T O) (bar lo hi : Nat) (k : T O → β) : β :=
  match fp with
  | .all => k h'
  | .q => copyN h' lo (Nat.sub hi lo) h k
  | .ls F wr => match wr with
    | true => part h' (geL bar F) h fun h => copyN h' lo (Nat.sub hi lo) h k
    | false => copyN h' lo (Nat.sub hi lo) h k

/-- All later operations that touch memory come after number i: a guess, checked later. -/
def laterOk (E : Env) (ms : T Nat) (i : Nat) : List Oper → Nat → Bool
  | [], _ => true
  | o :: r, j => match Nat.beq (clsOf E o.op) 0 with
    | true => laterOk E ms i r (Nat.succ j)
    | false => match ms.get j with
      | some m => match bit m i with
        | true => laterOk E ms i r (Nat.succ j)
        | false => false
      | none => false

/-- The slots that an operation may look at: those that nothing here writes, those written before, those written by what must come after. -/
def getD (regs : T V) (ms dm : T Nat) (i cl t : Nat) : Option V :=
  match dm.get t with
  | none => regs.get t
  | some j => match bit cl j with
    | true => regs.get t
    | false => match ms.get j with
      | some m => match bit m i with
        | true => regs.get t
        | false => none
      | none => none

def evD (regs : T V) (ms dm : T Nat) (i cl : Nat) : Operand → Option V
  | .tmp t => getD regs ms dm i cl t
  | .const v => conv v
  | .func f => some (.fn (.func f) [] [])
  | .global _ => none

def wantB (regs : T V) (ms dm : T Nat) (i cl : Nat) (all : List Oper) (o : Oper) : Option Bool :=
  match o.guard with
  | none => some true
  | some (g, want) => match nth all g with
    | some og => match og.dst with
      | some d => match getD regs ms dm i cl d with
        | some (.bool b) => match b, want with
          | true, true => some true
          | false, false => some true
          | _, _ => some false
        | some (.tup []) => some false
        | _ => none
      | none => none
    | none => none

def putO {β : Type} (S : St) (dst : Option Nat) (v : V) (k : St → Option β) : Option β :=
  match S with
  | ⟨nt, bar, regs, h, nx, df⟩ => match dst with
    | none => k ⟨nt, bar, regs, h, nx, df⟩
    | some d => match Nat.blt d nt with
      | true => regs.set d (some v) fun regs => k ⟨nt, bar, regs, h, nx, df⟩
      | false => none

def memD (E : Env) (ih : IH) (ms dm : T Nat) (i cl : Nat) (recs : List Rc) (o : Oper) (S : St) (fp : Fp) : Option (St × List Rc) :=
  match S with
  | ⟨nt, bar, regs, h, nx, df⟩ => match belowF nx fp && fits cl fp recs && Nat.ble bar nx with
    | false => none
    | true => viewX cl recs fp h bar nx fun hv barv => outV (opA E ih barv (evD regs ms dm i cl) hv nx o.op retV) fun v h' nx' => match Nat.ble nx nx' with
      | false => none
      | true => mergeX fp h h' bar nx nx' fun h => putO ⟨nt, bar, regs, h, nx', df⟩ o.dst v fun S => some (S, ⟨i, fp, nx, nx'⟩ :: recs)

def pickD (E : Env) (ms dm : T Nat) (cl : Nat) (r : List Oper) (i : Nat) (recs : List Rc) (o : Oper) (S : St) (c : Nat) : Option Fp :=
  match fits cl .all recs && laterOk E ms i r (Nat.succ i) with
  | true => some .all
  | false => match c with
    | 1 => match foot (evD S.regs ms dm i cl) o.op with
      | some F => some (.ls F false)
      | none => none
    | 2 => match foot (evD S.regs ms dm i cl) o.op with
      | some F => some (.ls F true)
      | none => none
    | _ => some .q

def stepD (E : Env) (ih : IH) (all : List Oper) (ms dm : T Nat) (r : List Oper) (o : Oper) (i : Nat) (recs : List Rc) (S : St) : Option (St × List Rc) :=
  match ms.get i with
  | none => none
  | some cl => match wantB S.regs ms dm i cl all o with
    | none => none
    | some false => putO S o.dst (.tup []) fun S => some (S, recs)
    | some true => match clsOf E o.op with
      | 0 => outV (opP E (evD S.regs ms dm i cl) o.op (fun v => retV v .e 0)) fun v _ _ => putO S o.dst v fun S => some (S, recs)
      | c => match pickD E ms dm cl r i recs o S c with
        | some fp => memD E ih ms dm i cl recs o S fp
        | none => none

def drawGo (E : Env) (ih : IH) (all : List Oper) (ms dm : T Nat) : List Oper → Nat → List Rc → St → Option St
  | [], _, _, S => some S
  | o :: r, i, recs, S => match stepD E ih all ms dm r o i recs S with
    | some (S, recs) => drawGo E ih all ms dm r (Nat.succ i) recs S
    | none => none

def exitOf : Option Code → St → R
  | none, S => some (.normal, S)
  | some .ret, S => some (.ret, S)
  | some (.exit id), S => some (.exit id, S)
  | _, _ => none

def rangeX (E : Env) (ih : IH) (rd : Option Nat) (g : Operand) (ps : Array Nat) (assign body : Code) (S : St) : R :=
  match evR S.regs g with
  | some (.fn (.func g) ga gb) => match rd with
    | some l => match S.h.get l with
      | some (.loop _ _ _ _ _ _ _ df) => new S.h S.nx (.loop .ready none S.nt S.regs ps.toList assign body df) fun h nx =>
        callF E ih S.bar h nx g (ga ++ [.fn (.yield S.nx) [] []] ++ gb) fun _ h nx => match h.get S.nx with
          | some (.loop .busy ..) => none
          | some (.loop _ j ..) => setLoop S.bar h S.nx .exhausted j fun h => exitOf j ⟨S.nt, S.bar, S.regs, h, nx, S.df⟩
          | _ => none
      | _ => none
    | none => new S.h S.nx (.dfr true) fun h nx => new h nx (.loop .ready none S.nt S.regs ps.toList assign body S.nx) fun h nx' =>
        callF E ih S.bar h nx' g (ga ++ [.fn (.yield nx) [] []] ++ gb) fun _ h nx' => match h.get nx with
          | some (.loop .busy ..) => none
          | some (.loop _ j ..) => setLoop S.bar h nx .exhausted j fun h => exitOf j ⟨S.nt, S.bar, S.regs, h, nx', S.nx :: S.df⟩
          | _ => none
  | _ => none

def cxBody (E : Env) (ih : IH) (rd : Option Nat) (c : Code) (S : St) : R :=
  match c with
  | .skip => some (.normal, S)
  | .label _ => some (.normal, S)
  | .ret => some (.ret, S)
  | .exit id => some (.exit id, S)
  | .seq a b => match ih rd a S with
    | some (.normal, S) => ih rd b S
    | r => r
  | .block id b => match ih rd b S with
    | some (.exit i, S) => match Nat.beq i id with
      | true => some (.normal, S)
      | false => some (.exit i, S)
    | r => r
  | .cond c a b => match evR S.regs c with
    | some (.bool true) => ih rd a S
    | some (.bool false) => ih rd b S
    | _ => none
  | .loop b => match ih rd b S with
    | some (.normal, S) => ih rd (.loop b) S
    | r => r
  | .region _ ops draw => match draw with
    | false => seqOps E ih ops.toList ops.toList S fun S => some (.normal, S)
    | true => prep ops.toList 0 .e .e fun ms dm => match drawGo E ih ops.toList ms dm ops.toList 0 [] S with
      | some S => some (.normal, S)
      | none => none
  | .rangeFunc g ps assign body => rangeX E ih rd g ps assign body S
  | _ => none

def cx (E : Env) (n : Nat) : Option Nat → Code → St → R :=
  Nat.rec (motive := fun _ => Option Nat → Code → St → R) (fun _ _ _ => none) (fun _ ih => cxBody E ih) n

end
end CX
