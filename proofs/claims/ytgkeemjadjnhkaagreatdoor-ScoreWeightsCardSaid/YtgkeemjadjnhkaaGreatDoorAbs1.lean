/- An abstract machine over the model's code, run by the kernel, and why it is right: part 1. -/
import Derived.Calls
import Derived.Below
import Derived.Laws.Sem
import Derived.Laws.Cells
import Derived.Laws.Rows
import Derived.Laws.Append
import Derived.Laws.CopyRow
import Derived.Laws.Entries
import Derived.Laws.Slices
import Derived.Laws.BytesString
import Derived.WalkSpells
/-! ## An abstract machine over the model's code: a state of it stands for many worlds of the model's (blocks renamed, capacities of what was appended to unknown, any order in drawn regions). It is run by the kernel. Definitions alone. -/
namespace Go.Abs
open Go
set_option linter.unusedVariables false
set_option linter.unusedSimpArgs false

/-- A capacity that is not known. -/
def capU : Nat := 9223372036854775808
/-- An empty slice that is not nil, of which nothing else is known. -/
def capE : Nat := 9223372036854775809

/-- Eight places, and which of them. -/
inductive E8 where
  | e0 | e1 | e2 | e3 | e4 | e5 | e6 | e7
  deriving DecidableEq
inductive B8 (α : Type) where
  | mk (a0 a1 a2 a3 a4 a5 a6 a7 : α)
def e8 (n : Nat) : E8 :=
  match n with
  | 0 => .e0 | 1 => .e1 | 2 => .e2 | 3 => .e3 | 4 => .e4 | 5 => .e5 | 6 => .e6 | _ => .e7
/-- A frame's temporaries: n of them, by eights; behind the n-th all are undefined. -/
structure TM where
  n : Nat
  bs : List (B8 Value)

structure ALoop where
  state : LoopState
  pending : Option Code
  fn : FuncId
  tmps : TM
  params : Array Tmp
  assign : Code
  body : Code
  defers : Nat

inductive Blk where
  | cells (xs : List Value) (e : TypeId) (grown : Bool)
  | map (es : List MapEntry) (clock : Nat)
  | mapIter (m : Nat) (since : Nat) (seen : List Nat) (last : Nat)
  | strIter (s : ByteArray) (pos : Nat)
  | loop (l : ALoop)
  | dfd (taken : Bool)
  /-- A package variable that is read alone. -/
  | ro (xs : List Value)

inductive Tr where
  | nil
  | tip (v : Option Blk)
  | nd (a0 a1 a2 a3 a4 a5 a6 a7 : Tr)

/-- How deep the tree of blocks is. -/
def D : Nat := 4
/-- The first numbers are the package variables' own. -/
def NG : Nat := 64

noncomputable def Tr.get : Nat → Tr → Nat → Option Blk := fun d => Nat.rec
  (fun t _ => Tr.casesOn t none (fun v => v) (fun _ _ _ _ _ _ _ _ => none))
  (fun _ ih t k => Tr.casesOn t none (fun _ => none) (fun a0 a1 a2 a3 a4 a5 a6 a7 => ih (E8.casesOn (e8 (Nat.mod k 8)) a0 a1 a2 a3 a4 a5 a6 a7) (Nat.div k 8))) d

/-- A node with one of its eight parts another. -/
noncomputable def nd8 (e : E8) (x a0 a1 a2 a3 a4 a5 a6 a7 : Tr) : Tr :=
  E8.casesOn e (.nd x a1 a2 a3 a4 a5 a6 a7) (.nd a0 x a2 a3 a4 a5 a6 a7) (.nd a0 a1 x a3 a4 a5 a6 a7) (.nd a0 a1 a2 x a4 a5 a6 a7)
    (.nd a0 a1 a2 a3 x a5 a6 a7) (.nd a0 a1 a2 a3 a4 x a6 a7) (.nd a0 a1 a2 a3 a4 a5 x a7) (.nd a0 a1 a2 a3 a4 a5 a6 x)
noncomputable def ndK (e : E8) (a0 a1 a2 a3 a4 a5 a6 a7 : Tr) (f : Tr → (Tr → Bool) → Bool) (K : Tr → Bool) : Bool :=
  E8.casesOn e (f a0 fun x => K (.nd x a1 a2 a3 a4 a5 a6 a7)) (f a1 fun x => K (.nd a0 x a2 a3 a4 a5 a6 a7)) (f a2 fun x => K (.nd a0 a1 x a3 a4 a5 a6 a7)) (f a3 fun x => K (.nd a0 a1 a2 x a4 a5 a6 a7))
    (f a4 fun x => K (.nd a0 a1 a2 a3 x a5 a6 a7)) (f a5 fun x => K (.nd a0 a1 a2 a3 a4 x a6 a7)) (f a6 fun x => K (.nd a0 a1 a2 a3 a4 a5 x a7)) (f a7 fun x => K (.nd a0 a1 a2 a3 a4 a5 a6 x))
noncomputable def Tr.setK : Nat → Tr → Nat → Option Blk → (Tr → Bool) → Bool := fun d => Nat.rec
  (fun _ _ v K => K (.tip v))
  (fun _ ih t k v K => Tr.casesOn t
    (ndK (e8 (Nat.mod k 8)) .nil .nil .nil .nil .nil .nil .nil .nil (fun x K => ih x (Nat.div k 8) v K) K)
    (fun _ => ndK (e8 (Nat.mod k 8)) .nil .nil .nil .nil .nil .nil .nil .nil (fun x K => ih x (Nat.div k 8) v K) K)
    (fun a0 a1 a2 a3 a4 a5 a6 a7 => ndK (e8 (Nat.mod k 8)) a0 a1 a2 a3 a4 a5 a6 a7 (fun x K => ih x (Nat.div k 8) v K) K)) d

/-! Lists, strictly. -/
noncomputable def lget {α : Type} : List α → Nat → (α → Bool) → Bool := fun xs => List.rec
  (fun _ _ => false)
  (fun x _ ih i K => Nat.casesOn i (K x) (fun j => ih j K)) xs

noncomputable def lset {α : Type} : List α → Nat → α → (List α → Bool) → Bool := fun xs => List.rec
  (fun _ _ _ => false)
  (fun x t ih i v K => Nat.casesOn i (K (v :: t)) (fun j => ih j v fun t' => K (x :: t'))) xs

/-- From a place on. -/
noncomputable def ldrop {α : Type} : List α → Nat → (List α → Bool) → Bool := fun xs => List.rec
  (fun i K => Nat.casesOn i (K []) (fun _ => false))
  (fun x t ih i K => Nat.casesOn i (K (x :: t)) (fun j => ih j K)) xs

/-- Just the first n. -/
noncomputable def ltake {α : Type} : Nat → List α → (List α → Bool) → Bool := fun n => Nat.rec
  (fun _ K => K [])
  (fun _ ih xs K => List.casesOn xs false (fun x t => ih t fun t' => K (x :: t'))) n

noncomputable def lapp {α : Type} : List α → List α → (List α → Bool) → Bool := fun xs => List.rec
  (fun ys K => K ys)
  (fun x _ ih ys K => ih ys fun t' => K (x :: t')) xs

/-- Write a row over a list from a place on. -/
noncomputable def lover {α : Type} : List α → List α → (List α → Bool) → Bool := fun vs => List.rec
  (fun xs K => K xs)
  (fun v _ ih xs K => List.casesOn xs false (fun _ t => ih t fun t' => K (v :: t'))) vs
noncomputable def lput {α : Type} : List α → Nat → List α → (List α → Bool) → Bool := fun xs => List.rec
  (fun i vs K => Nat.casesOn i (lover vs [] K) (fun _ => false))
  (fun x t ih i vs K => Nat.casesOn i (lover vs (x :: t) K) (fun j => ih j vs fun t' => K (x :: t'))) xs

/-- n times a row. -/
noncomputable def lrep {α : Type} : Nat → List α → (List α → Bool) → Bool := fun n => Nat.rec
  (fun _ K => K [])
  (fun _ ih zs K => ih zs fun t => lapp zs t K) n

noncomputable def llen {α : Type} : List α → Nat → (Nat → Bool) → Bool := fun xs => List.rec
  (fun n K => K n)
  (fun _ _ ih n K => ih (Nat.succ n) K) xs

/-! Temporaries. -/
noncomputable def get8 (b : B8 Value) (e : E8) (K : Value → Bool) : Bool :=
  B8.casesOn b fun a0 a1 a2 a3 a4 a5 a6 a7 => E8.casesOn e (K a0) (K a1) (K a2) (K a3) (K a4) (K a5) (K a6) (K a7)
noncomputable def set8 (b : B8 Value) (e : E8) (x : Value) (K : B8 Value → Bool) : Bool :=
  B8.casesOn b fun a0 a1 a2 a3 a4 a5 a6 a7 => E8.casesOn e (K (.mk x a1 a2 a3 a4 a5 a6 a7)) (K (.mk a0 x a2 a3 a4 a5 a6 a7)) (K (.mk a0 a1 x a3 a4 a5 a6 a7)) (K (.mk a0 a1 a2 x a4 a5 a6 a7))
    (K (.mk a0 a1 a2 a3 x a5 a6 a7)) (K (.mk a0 a1 a2 a3 a4 x a6 a7)) (K (.mk a0 a1 a2 a3 a4 a5 x a7)) (K (.mk a0 a1 a2 a3 a4 a5 a6 x))
noncomputable def tget (tm : TM) (i : Nat) (K : Value → Bool) : Bool :=
  TM.casesOn tm fun _ bs => lget bs (Nat.div i 8) fun b => get8 b (e8 (Nat.mod i 8)) K
/-- Set a place in the block of a number. -/
noncomputable def sets8 : List (B8 Value) → Nat → E8 → Value → (List (B8 Value) → Bool) → Bool := fun bs => List.rec
  (fun _ _ _ _ => false)
  (fun b t ih i e x K => Nat.casesOn i (set8 b e x fun b => K (b :: t)) (fun j => ih j e x fun t' => K (b :: t'))) bs
noncomputable def tset (tm : TM) (i : Nat) (v : Value) (K : TM → Bool) : Bool :=
  TM.casesOn tm fun n bs => Bool.casesOn (Nat.ble n i) (sets8 bs (Nat.div i 8) (e8 (Nat.mod i 8)) v fun bs => K ⟨n, bs⟩) false
noncomputable def take1 (vs : List Value) (K : Value → List Value → Bool) : Bool := List.casesOn vs (K (.tuple #[]) []) (fun x t => K x t)
noncomputable def pack8 : Nat → List Value → (List (B8 Value) → Bool) → Bool := fun k => Nat.rec
  (fun _ K => K [])
  (fun _ ih vs K => take1 vs fun a0 r => take1 r fun a1 r => take1 r fun a2 r => take1 r fun a3 r => take1 r fun a4 r => take1 r fun a5 r => take1 r fun a6 r => take1 r fun a7 r =>
    ih r fun bs => K (.mk a0 a1 a2 a3 a4 a5 a6 a7 :: bs)) k
noncomputable def tnew (n : Nat) (vs : List Value) (K : TM → Bool) : Bool :=
  llen vs 0 fun m => Bool.casesOn (Nat.ble m n) false (pack8 (Nat.div (Nat.add n 7) 8) vs fun bs => K ⟨n, bs⟩)

/-! Forcing. -/
noncomputable def fN (n : Nat) (K : Nat → Bool) : Bool := Nat.casesOn n (K 0) (fun m => K (Nat.succ m))
noncomputable def fI (n : Int) (K : Int → Bool) : Bool := Int.casesOn n (fun m => fN m fun m => K (Int.ofNat m)) (fun m => fN m fun m => K (Int.negSucc m))
noncomputable def fB (b : Bool) (K : Bool → Bool) : Bool := Bool.casesOn b (K false) (K true)
noncomputable def fA (a : Addr) (K : Addr → Bool) : Bool := Addr.casesOn a fun b o s => Option.casesOn s (fN b fun b => fN o fun o => K ⟨b, o, none⟩) (fun _ => false)
noncomputable def fOA (a : Option Addr) (K : Option Addr → Bool) : Bool := Option.casesOn a (K none) (fun a => fA a fun a => K (some a))
/-- A value that holds no others. -/
noncomputable def fV0 (v : Value) (K : Value → Bool) : Bool :=
  match v with
  | .int k n => fI n fun n => K (.int k n)
  | .bool b => fB b fun b => K (.bool b)
  | .pointer a => fOA a fun a => K (.pointer a)
  | .slice a n c => fOA a fun a => fN n fun n => fN c fun c => K (.slice a n c)
  | v => K v
noncomputable def fL : List Value → (List Value → Bool) → Bool := fun xs => List.rec
  (fun K => K [])
  (fun x _ ih K => fV0 x fun x => ih fun t => K (x :: t)) xs
noncomputable def fV (v : Value) (K : Value → Bool) : Bool :=
  match v with
  | .int k n => fI n fun n => K (.int k n)
  | .bool b => fB b fun b => K (.bool b)
  | .pointer a => fOA a fun a => K (.pointer a)
  | .slice a n c => fOA a fun a => fN n fun n => fN c fun c => K (.slice a n c)
  | .agg cs => Array.casesOn cs fun l => fL l fun l => K (.agg ⟨l⟩)
  | .tuple cs => Array.casesOn cs fun l => fL l fun l => K (.tuple ⟨l⟩)
  | .iface t v => fV0 v fun v => K (.iface t v)
  | v => K v

/-! Values without addresses. -/
def isLit0 : Value → Bool
  | .bool _ | .int _ _ | .float _ _ | .complex _ _ _ | .string _ | .nilFunc | .nilIface => true
  | .pointer none | .map none | .chan none => true
  | .slice none n c => Nat.beq n 0 && Nat.beq c 0
  | .func (.func _) a b => a.toList.isEmpty && b.toList.isEmpty
  | _ => false
noncomputable def allLit0 : List Value → Bool := fun xs => List.rec true (fun x _ ih => Bool.casesOn (isLit0 x) false ih) xs
noncomputable def isLit1 : Value → Bool
  | .agg cs => Array.casesOn cs fun l => allLit0 l
  | v => isLit0 v
noncomputable def allLit1 : List Value → Bool := fun xs => List.rec true (fun x _ ih => Bool.casesOn (isLit1 x) false ih) xs
noncomputable def isLit : Value → Bool
  | .iface _ v => isLit1 v
  | .tuple cs => Array.casesOn cs fun l => allLit1 l
  | v => isLit1 v

/-! The same value: for reading again. -/
def sameAddr : Option Addr → Option Addr → Bool
  | none, none => true
  | some a, some b => Nat.beq a.block b.block && Nat.beq a.off b.off && a.spot.isNone && b.spot.isNone
  | _, _ => false
def sameInt : Int → Int → Bool
  | .ofNat a, .ofNat b => Nat.beq a b
  | .negSucc a, .negSucc b => Nat.beq a b
  | _, _ => false
noncomputable def sameFn : Fn → Fn → Bool
  | .func f, .func g => Nat.beq f g
  | _, _ => false
def kindNo : IntKind → Nat
  | .i8 => 0 | .i16 => 1 | .i32 => 2 | .i64 => 3 | .u8 => 4 | .u16 => 5 | .u32 => 6 | .u64 => 7
def same0 : Value → Value → Bool
  | .bool a, .bool b => a == b
  | .int k a, .int l b => Nat.beq (kindNo k) (kindNo l) && sameInt a b
  | .string a, .string b => a.data.toList == b.data.toList
  | .pointer a, .pointer b => sameAddr a b
  | .slice a n c, .slice b m d => sameAddr a b && Nat.beq n m && Nat.beq c d
  | .map none, .map none => true
  | .map (some a), .map (some b) => Nat.beq a b
  | .nilFunc, .nilFunc | .nilIface, .nilIface => true
  | _, _ => false
noncomputable def sameL (f : Value → Value → Bool) : List Value → List Value → Bool := fun xs => List.rec
  (fun ys => ys.isEmpty)
  (fun x _ ih ys => List.casesOn ys false (fun y t => Bool.casesOn (f x y) false (ih t))) xs
noncomputable def same1 (v w : Value) : Bool :=
  match v, w with
  | .agg a, .agg b => sameL same0 a.toList b.toList
  | .tuple a, .tuple b => sameL same0 a.toList b.toList
  | .func f a b, .func g c d => sameFn f g && sameL same0 a.toList c.toList && sameL same0 b.toList d.toList
  | .iface t a, .iface u b => Nat.beq t u && same0 a b
  | v, w => same0 v w
noncomputable def sameBlk : Blk → Blk → Bool
  | .cells xs e g, .cells ys f h => sameL same1 xs ys && Nat.beq e f && (g == h)
  | .map es c, .map fs d => es.isEmpty && fs.isEmpty && Nat.beq c d
  | _, _ => false

/-- What a piece of the model's answers, where it asks nothing but the program. -/
def pureRun {α : Type} (P : Program) : Sem α → Option α
  | .pure a => some a
  | .program k => pureRun P (k P)
  | _ => none

noncomputable def pureK {α : Type} (P : Program) (s : Sem α) (K : α → Bool) : Bool := Option.casesOn (pureRun P s) false K

/-- The same, where the answer is a value that holds no address. -/
noncomputable def pureVK (P : Program) (s : Sem Value) (K : Value → Bool) : Bool := pureK P s fun r => Bool.casesOn (isLit r) false (K r)

/-! Operands. -/
noncomputable def evK (tmps : TM) (x : Operand) (K : Value → Bool) : Bool :=
  match x with
  | .tmp t => tget tmps t K
  | .const v => Bool.casesOn (isLit v) false (K v)
  | .func f => K (.func (.func f) #[] #[])
  | .global g => Bool.casesOn (Nat.ble NG g) (K (.pointer (some ⟨g, 0, none⟩))) false
noncomputable def evsK (tmps : TM) : List Operand → (List Value → Bool) → Bool := fun xs => List.rec
  (fun K => K [])
  (fun x _ ih K => evK tmps x fun v => ih fun vs => K (v :: vs)) xs
noncomputable def evpK (tmps : TM) : List (Nat × Operand) → (List (Nat × Value) → Bool) → Bool := fun xs => List.rec
  (fun K => K [])
  (fun x _ ih K => Prod.casesOn x fun i x => evK tmps x fun v => ih fun vs => K ((i, v) :: vs)) xs

noncomputable def putK (tmps : TM) (dst : Option Tmp) (v : Value) (K : TM → Bool) : Bool :=
  Option.casesOn dst (K tmps) (fun d => fV v fun v => tset tmps d v K)

/-! Types. -/
noncomputable def undK (P : Program) (t : TypeId) (K : TypeDesc → Bool) : Bool := Option.casesOn (P.underlying t) false K
noncomputable def infK (P : Program) (t : TypeId) (K : TypeInfo → Bool) : Bool := Option.casesOn (P.info? t) false K
/-- The cells of a type's zero value. -/
noncomputable def zeroK (P : Program) (t : TypeId) (K : List Value → Bool) : Bool :=
  infK P t fun i => Option.casesOn i.zero false (fun z => Bool.casesOn (allLit0 z.cells.toList) false (K z.cells.toList))

/-- The number behind an index. -/
noncomputable def natK (v : Value) (K : Nat → Bool) : Bool :=
  match v with
  | .int _ (.ofNat n) => K n
  | _ => false

noncomputable def cellsK (t : Tr) (b : Nat) (K : List Value → TypeId → Bool → Bool) : Bool :=
  match Tr.get D t b with
  | some (.cells xs e g) => K xs e g
  | _ => false

/-- Cells that are read. -/
noncomputable def readK (t : Tr) (b : Nat) (K : List Value → Bool) : Bool :=
  match Tr.get D t b with
  | some (.cells xs _ _) => K xs
  | some (.ro xs) => K xs
  | _ => false

/-- The value of a variable of a type at a place. -/
noncomputable def loadK (P : Program) (t : Tr) (ty : TypeId) (b off : Nat) (K : Value → Bool) : Bool :=
  readK t b fun xs => undK P ty fun d =>
    match d with
    | .struct _ | .array _ _ => infK P ty fun i => ldrop xs off fun ys => ltake i.size ys fun zs => K (.agg ⟨zs⟩)
    | _ => lget xs off K

/-- Part of a row of cells, as a value of a type. -/
noncomputable def partK (P : Program) (ty : TypeId) (cs : List Value) (off : Nat) (K : Value → Bool) : Bool :=
  undK P ty fun d =>
    match d with
    | .struct _ | .array _ _ => infK P ty fun i => ldrop cs off fun ys => ltake i.size ys fun zs => K (.agg ⟨zs⟩)
    | _ => lget cs off K

/-- A bound: none given, or a number of at most n. -/
noncomputable def boundK (tmps : TM) (x : Option Operand) (dflt most : Nat) (K : Nat → Bool) : Bool :=
  match x with
  | none => K dflt
  | some x => evK tmps x fun v => natK v fun n => Bool.casesOn (Nat.ble n most) false (K n)

/-- A slice of a slice of known capacity. -/
noncomputable def sliceKnown (size : Nat) (tmps : TM) (a : Option Addr) (n c : Nat) (lo hi mx : Option Operand) (K : Value → Bool) : Bool :=
  boundK tmps mx c c fun m => boundK tmps hi n m fun h => boundK tmps lo 0 h fun l =>
    Bool.casesOn (Nat.beq m l)
      (match a with
        | none => K (.slice none (Nat.sub h l) (Nat.sub m l))
        | some ⟨b, off, _⟩ => K (.slice (some ⟨b, Nat.add off (Nat.mul l size), none⟩) (Nat.sub h l) (Nat.sub m l)))
      (K (.slice a (Nat.sub h l) (Nat.sub m l)))
/-- Of a capacity that is not known. -/
noncomputable def sliceOpen (size : Nat) (tmps : TM) (a : Addr) (n : Nat) (lo hi mx : Option Operand) (K : Value → Bool) : Bool :=
  match mx with
  | some _ =>
    boundK tmps mx 0 n fun m => boundK tmps hi n m fun h => boundK tmps lo 0 h fun l =>
      Bool.casesOn (Nat.beq m l)
        (K (.slice (some ⟨a.block, Nat.add a.off (Nat.mul l size), none⟩) (Nat.sub h l) (Nat.sub m l)))
        (K (.slice (some ⟨a.block, a.off, none⟩) (Nat.sub h l) (Nat.sub m l)))
  | none =>
    boundK tmps hi n n fun h => boundK tmps lo 0 h fun l =>
      Bool.casesOn (Nat.beq l n)
        (K (.slice (some ⟨a.block, Nat.add a.off (Nat.mul l size), none⟩) (Nat.sub h l) capU))
        (Nat.casesOn n (K (.slice (some ⟨a.block, a.off, none⟩) 0 capU)) (fun _ => K (.slice (some ⟨a.block, a.off, none⟩) 0 capE)))
/-- Of an empty one of which nothing is known. -/
noncomputable def sliceEmpty (tmps : TM) (a : Addr) (lo hi mx : Option Operand) (K : Value → Bool) : Bool :=
  match mx with
  | some _ => boundK tmps mx 0 0 fun m => boundK tmps hi 0 m fun h => boundK tmps lo 0 h fun _ => K (.slice (some ⟨a.block, a.off, none⟩) 0 capE)
  | none => boundK tmps hi 0 0 fun h => boundK tmps lo 0 h fun _ => K (.slice (some ⟨a.block, a.off, none⟩) 0 capE)
noncomputable def sliceK (size : Nat) (tmps : TM) (a : Option Addr) (n c : Nat) (lo hi mx : Option Operand) (K : Value → Bool) : Bool :=
  match Nat.ble capU c with
  | false => sliceKnown size tmps a n c lo hi mx K
  | true => match a with
    | none => false
    | some a => match Nat.beq c capU with
      | true => Nat.casesOn size false fun _ => sliceOpen size tmps a n lo hi mx K
      | false => sliceEmpty tmps a lo hi mx K
/-- A third bound wants a second one. -/
def okMx (hi mx : Option Operand) : Bool := match mx, hi with
  | some _, none => false
  | _, _ => true

/-- An equality that asks of addresses no more than whether they are nil, or one. -/
noncomputable def eqK (d : TypeDesc) (x y : Value) (K : Bool → Bool) : Bool :=
  match d, x, y with
  | .pointer _, .pointer none, .pointer (some _) => K false
  | .pointer _, .pointer (some _), .pointer none => K false
  | .slice _, .slice none _ _, .slice (some _) _ _ => K false
  | .slice _, .slice (some _) _ _, .slice none _ _ => K false
  | .map _ _, .map none, .map (some _) => K false
  | .map _ _, .map (some _), .map none => K false
  | .func _ _ _, .nilFunc, .func _ _ _ => K false
  | .func _ _ _, .func _ _ _, .nilFunc => K false
  | .interface _, .nilIface, .iface _ _ => K false
  | .interface _, .iface _ _, .nilIface => K false
  | _, _, _ => false

/-- Wrapped to a kind: quick where nothing is to be wrapped. -/
def wrapF (k : IntKind) (n : Int) : Int :=
  match k, n with
  | .i64, .ofNat m => match Nat.ble 9223372036854775808 m with
    | true => IntKind.i64.wrap (.ofNat m)
    | false => .ofNat m
  | .i64, .negSucc m => match Nat.ble 9223372036854775808 m with
    | true => IntKind.i64.wrap (.negSucc m)
    | false => .negSucc m
  | .u8, .ofNat m => match Nat.ble 256 m with
    | true => IntKind.u8.wrap (.ofNat m)
    | false => .ofNat m
  | .u32, .ofNat m => match Nat.ble 4294967296 m with
    | true => IntKind.u32.wrap (.ofNat m)
    | false => .ofNat m
  | .u64, .ofNat m => match Nat.ble 18446744073709551616 m with
    | true => IntKind.u64.wrap (.ofNat m)
    | false => .ofNat m
  | k, n => IntKind.wrap k n
def eqF : Int → Int → Bool
  | .ofNat a, .ofNat b => Nat.beq a b
  | .negSucc a, .negSucc b => Nat.beq a b
  | _, _ => false
def leF : Int → Int → Bool
  | .ofNat a, .ofNat b => Nat.ble a b
  | .negSucc a, .negSucc b => Nat.ble b a
  | .negSucc _, .ofNat _ => true
  | .ofNat _, .negSucc _ => false
def addF : Int → Int → Int
  | .ofNat a, .ofNat b => .ofNat (Nat.add a b)
  | a, b => a + b

abbrev IT := Program → BinOp → TypeId → Operand → Operand → IntKind → Int → Int → (Value → Bool) → Bool
noncomputable def iAdd : IT := fun _ _ _ _ _ k a b K => K (.int k (wrapF k (addF a b)))
noncomputable def iSub : IT := fun _ _ _ _ _ k a b K => K (.int k (wrapF k (Int.sub a b)))
noncomputable def iEql : IT := fun _ _ _ _ _ _ a b K => K (.bool (eqF a b))
noncomputable def iNeq : IT := fun _ _ _ _ _ _ a b K => K (.bool (Bool.not (eqF a b)))
noncomputable def iLeq : IT := fun _ _ _ _ _ _ a b K => K (.bool (leF a b))
noncomputable def iLss : IT := fun _ _ _ _ _ _ a b K => K (.bool (Bool.not (leF b a)))
noncomputable def iGeq : IT := fun _ _ _ _ _ _ a b K => K (.bool (leF b a))
noncomputable def iGtr : IT := fun _ _ _ _ _ _ a b K => K (.bool (Bool.not (leF a b)))
noncomputable def iAny : IT := fun P op ty x y k a b K => pureVK P (do eqGuard op ty x y (.int k a) (.int k b); binOp op ty (.int k a) (.int k b)) K
noncomputable def intK (op : BinOp) : IT :=
  match op with
  | .add => iAdd
  | .sub => iSub
  | .eql => iEql
  | .neq => iNeq
  | .leq => iLeq
  | .lss => iLss
  | .geq => iGeq
  | .gtr => iGtr
  | _ => iAny
abbrev BT := Program → BinOp → TypeId → Operand → Operand → Value → Value → (Value → Bool) → Bool
noncomputable def bNil : BT := fun P op ty x y a b K => match op with
  | .eql => undK P ty fun d => eqK d a b fun r => K (.bool r)
  | .neq => undK P ty fun d => eqK d a b fun r => K (.bool (!r))
  | _ => false
noncomputable def bLit : BT := fun P op ty x y a b K => pureVK P (do eqGuard op ty x y a b; binOp op ty a b) K
noncomputable def bAny : BT := fun P op ty x y a b K => (match isLit a && isLit b with | false => bNil | true => bLit) P op ty x y a b K
noncomputable def bInt (k : IntKind) (n : Int) (l : IntKind) (m : Int) : BT := fun P op ty x y _ _ K => (match Nat.beq (kindNo k) (kindNo l) with | true => intK op | false => iDiff l) P op ty x y k n m K
where iDiff (l : IntKind) : IT := fun P op ty x y k a b K => pureVK P (do eqGuard op ty x y (.int k a) (.int l b); binOp op ty (.int k a) (.int l b)) K
noncomputable def bLeft (k : IntKind) (n : Int) (b : Value) : BT := match b with
  | .int l m => bInt k n l m
  | _ => bAny
noncomputable def binK (P : Program) (op : BinOp) (ty : TypeId) (x y : Operand) (a b : Value) (K : Value → Bool) : Bool :=
  (match a with
  | .int k n => bLeft k n b
  | _ => bAny) P op ty x y a b K

noncomputable def bytesK : List Value → (List UInt8 → Bool) → Bool := fun xs => List.rec
  (fun K => K [])
  (fun x _ ih K => match x with
    | .int .u8 n => ih fun t => K (UInt8.ofNat n.toNat :: t)
    | _ => false) xs

/-! Operations that only read, each a function of its own (so that the kernel copies little where it chooses). -/
abbrev QT := Program → Tr → TM → TypeId → (Value → Bool) → Bool
noncomputable def qNo : QT := fun _ _ _ _ _ => false
noncomputable def qMove (x : Operand) : QT := fun _ _ tmps _ K => evK tmps x K
noncomputable def qPick (c a b : Operand) : QT := fun _ _ tmps _ K => evK tmps c fun v => match v with
  | .bool true => evK tmps a fun x => evK tmps b fun _ => K x
  | .bool false => evK tmps a fun _ => evK tmps b fun x => K x
  | _ => false
noncomputable def qLoad (ty : TypeId) (x : Operand) : QT := fun P t tmps _ K => evK tmps x fun v => match v with
  | .pointer (some ⟨b, off, _⟩) => loadK P t ty b off K
  | _ => false
noncomputable def qNilCheck (x : Operand) : QT := fun _ _ tmps _ K => evK tmps x fun v => match v with
  | .pointer (some _) | .func (.func _) _ _ => K v
  | _ => false
noncomputable def qBinOp (op : BinOp) (ty : TypeId) (x y : Operand) : QT := fun P _ tmps _ K => evK tmps x fun a => evK tmps y fun b => binK P op ty x y a b K
noncomputable def qUnOp (op : UnOp) (x : Operand) : QT := fun P _ tmps _ K => evK tmps x fun v => Bool.casesOn (isLit v) false (pureVK P (Op.unary op v) K)
noncomputable def qConvBytes (b off n : Nat) (e : TypeId) : QT := fun P t _ _ K => undK P e fun ed => match ed with
  | .int .u8 => readK t b fun xs => ldrop xs off fun ys => ltake n ys fun zs => bytesK zs fun bs => K (.string ⟨⟨bs⟩⟩)
  | _ => false
noncomputable def qConvLit (src dst : TypeId) (v : Value) : QT := fun P _ _ _ K => Bool.casesOn (isLit v) false (pureVK P (convert src dst v) K)
noncomputable def qConvK (src dst : TypeId) (s d : TypeDesc) (v : Value) : QT := match s, d, v with
  | .slice e, .string, .slice (some ⟨b, off, _⟩) n _ => qConvBytes b off n e
  | _, .slice _, _ => qNo
  | _, _, _ => qConvLit src dst v
noncomputable def qConvert (src dst : TypeId) (x : Operand) : QT := fun P t tmps oty K => evK tmps x fun v => undK P src fun s => undK P dst fun d => qConvK src dst s d v P t tmps oty K
noncomputable def qMakeInterface (ty : TypeId) (x : Operand) : QT := fun P _ tmps _ K => evK tmps x fun v => undK P ty fun d => match d with
  | .interface _ => false
  | _ => K (.iface ty v)
noncomputable def qMakeFunc (fn : Fn) (first captured : Array Operand) : QT := fun _ _ tmps _ K => match fn with
  | .func f => evsK tmps first.toList fun a => evsK tmps captured.toList fun b => K (.func (.func f) ⟨a⟩ ⟨b⟩)
  | _ => false
noncomputable def qFieldAddr (s : TypeId) (x : Operand) (f : Nat) : QT := fun P _ tmps _ K => evK tmps x fun v => match v with
  | .pointer (some ⟨b, off, _⟩) => undK P s fun d => match d with
    | .struct fields => Option.casesOn fields[f]? false fun fl => infK P fl.type fun i => Nat.casesOn i.size false fun _ =>
        K (.pointer (some ⟨b, Nat.add off fl.offset, none⟩))
    | _ => false
  | _ => false
noncomputable def qField (ty : TypeId) (x : Operand) (f : Nat) : QT := fun P _ tmps _ K => evK tmps x fun v => match v with
  | .agg cs => undK P ty fun d => match d with
    | .struct fields => Option.casesOn fields[f]? false fun fl => partK P fl.type cs.toList fl.offset K
    | _ => false
  | _ => false
noncomputable def qIndexAddr (ty : TypeId) (x ix : Operand) : QT := fun P _ tmps _ K => evK tmps x fun v => evK tmps ix fun iv => natK iv fun i => undK P ty fun d => match d, v with
  | .array len elem, .pointer (some ⟨b, off, _⟩) => Bool.casesOn (Nat.ble len i) (infK P elem fun inf => K (.pointer (some ⟨b, Nat.add off (Nat.mul i inf.size), none⟩))) false
  | .slice elem, .slice (some ⟨b, off, _⟩) len _ => Bool.casesOn (Nat.ble len i) (infK P elem fun inf => K (.pointer (some ⟨b, Nat.add off (Nat.mul i inf.size), none⟩))) false
  | _, _ => false
noncomputable def qIndex (ty : TypeId) (x ix : Operand) : QT := fun P _ tmps _ K => evK tmps x fun v => evK tmps ix fun iv => match v with
  | .string _ => Bool.casesOn (isLit iv) false (pureVK P (Instr.index ty v iv) K)
  | .agg cs => natK iv fun i => undK P ty fun d => match d with
    | .array len elem => Bool.casesOn (Nat.ble len i) (infK P elem fun inf => partK P elem cs.toList (Nat.mul i inf.size) K) false
    | _ => false
  | _ => false
noncomputable def missK (P : Program) (elem : TypeId) (kv : Value) (ok : Bool) (K : Value → Bool) : Bool :=
  infK P elem fun i => Option.casesOn i.zero false fun z => Bool.casesOn (isLit1 z) false (Bool.casesOn ok (K z) (K (.tuple #[z, .bool false])))
noncomputable def lookK (P : Program) (t : Tr) (kd : TypeDesc) (kv : Value) (elem : TypeId) (ok : Bool) (v : Value) (K : Value → Bool) : Bool := match v with
  | .map none => missK P elem kv ok K
  | .map (some b) => match Tr.get D t b with
    | some (.map es _) => match Instr.findNow kd kv es 0 with
      | some (some (_, r)) => Bool.casesOn ok (K r) (K (.tuple #[r, .bool true]))
      | some none => missK P elem kv ok K
      | none => false
    | _ => false
  | _ => false
def plainKey : TypeDesc → Bool
  | .string => true
  | .int _ => true
  | _ => false
noncomputable def qLookup (ty : TypeId) (x ix : Operand) (ok : Bool) : QT := fun P t tmps _ K => evK tmps x fun v => evK tmps ix fun kv => undK P ty fun d => match d with
  | .map key elem => undK P key fun kd => Bool.casesOn (plainKey kd && isLit0 kv) false (lookK P t kd kv elem ok v K)
  | _ => false
noncomputable def qSlice (ty : TypeId) (x : Operand) (lo hi mx : Option Operand) : QT := fun P _ tmps _ K => Bool.casesOn (okMx hi mx) false (evK tmps x fun v => undK P ty fun d => match d, v with
  | .string, .string s => match mx with
    | some _ => false
    | none => boundK tmps hi s.size s.size fun h => boundK tmps lo 0 h fun l => K (.string (s.extract l h))
  | .slice elem, .slice a n c => infK P elem fun inf => sliceK inf.size tmps a n c lo hi mx K
  | .array n elem, .pointer (some a) => infK P elem fun inf => Bool.casesOn (Nat.ble capU n) (sliceKnown inf.size tmps (some a) n n lo hi mx K) false
  | _, _ => false)
noncomputable def qExtract (x : Operand) (i : Nat) : QT := fun _ _ tmps _ K => evK tmps x fun v => match v with
  | .tuple vs => lget vs.toList i K
  | _ => false
noncomputable def qBuild (ty : TypeId) (parts : Array (Nat × Operand)) : QT := fun P _ tmps _ K => evpK tmps parts.toList fun ps => zeroK P ty fun _ => pureK P (Instr.build ty ⟨ps⟩) fun v => fV v K
noncomputable def qEntry (x : Operand) : QT := fun _ t tmps _ K => evK tmps x fun v => match v with
  | .pointer (some ⟨r, 0, _⟩) => match Tr.get D t r with
    | some (.mapIter m _ seen last) => match seen.getLast?, Tr.get D t m with
      | some stamp, some (.map es clock) => Bool.casesOn (Nat.beq clock last) false (match es.find? (fun e => Nat.beq e.born stamp) with
        | some e => K (.tuple #[e.key, e.val])
        | none => false)
      | _, _ => false
    | _ => false
  | _ => false
noncomputable def qTypeAssert (x : Operand) (xt as : TypeId) (ok : Bool) : QT := fun P _ tmps _ K => evK tmps x fun v => match v with
  | .nilIface => pureVK P (Instr.typeAssert .nilIface xt as ok) K
  | .iface ty u => undK P as fun d => match d with
    | .interface _ => false
    | _ => Bool.casesOn (Nat.beq ty as) false (Bool.casesOn ok (K u) (K (.tuple #[u, .bool true])))
  | _ => false
noncomputable def lenK (t : Tr) (d : TypeDesc) (v : Value) (K : Value → Bool) : Bool := match d, v with
  | .slice _, .slice _ n _ => K (.int .i64 (Int.ofNat n))
  | .string, .string s => K (.int .i64 (Int.ofNat s.size))
  | .array n _, _ => K (.int .i64 (Int.ofNat n))
  | .map _ _, .map none => K (.int .i64 0)
  | .map _ _, .map (some b) => match Tr.get D t b with
    | some (.map es _) => llen es 0 fun n => K (.int .i64 (Int.ofNat n))
    | _ => false
  | _, _ => false
noncomputable def qLen (args : List Operand) (argTypes : List TypeId) : QT := fun P t tmps _ K => match args, argTypes with
  | [x], [ty] => evK tmps x fun v => undK P ty fun d => lenK t d v K
  | _, _ => false
noncomputable def qCap (args : List Operand) (argTypes : List TypeId) : QT := fun P _ tmps _ K => match args, argTypes with
  | [x], [ty] => evK tmps x fun v => undK P ty fun d => match d, v with
    | .slice _, .slice _ _ c => Bool.casesOn (Nat.ble capU c) (K (.int .i64 (Int.ofNat c))) false
    | _, _ => false
  | _, _ => false
noncomputable def qMin (args : Array Operand) (argTypes : Array TypeId) : QT := fun P _ tmps oty K => evsK tmps args.toList fun vs => Bool.casesOn (allLit0 vs) false (pureVK P (Builtin.min_ argTypes oty ⟨vs⟩) K)
noncomputable def qMax (args : Array Operand) (argTypes : Array TypeId) : QT := fun P _ tmps oty K => evsK tmps args.toList fun vs => Bool.casesOn (allLit0 vs) false (pureVK P (Builtin.max_ argTypes oty ⟨vs⟩) K)
noncomputable def qBuiltin (b : Builtin) (args : Array Operand) (argTypes : Array TypeId) : QT := match b with
  | .len => qLen args.toList argTypes.toList
  | .cap => qCap args.toList argTypes.toList
  | .min => qMin args argTypes
  | .max => qMax args argTypes
  | _ => qNo
noncomputable def qCall (c : Call) : QT := match c with
  | ⟨.builtin b, args, argTypes⟩ => qBuiltin b args argTypes
  | _ => qNo

/-- Operations that only read. -/
noncomputable def quietK (P : Program) (t : Tr) (tmps : TM) (o : Oper) (K : Value → Bool) : Bool :=
  (match o.op with
  | .move x => qMove x
  | .pick c a b => qPick c a b
  | .load ty x => qLoad ty x
  | .nilCheck x => qNilCheck x
  | .binOp op ty x y _ => qBinOp op ty x y
  | .unOp op _ x => qUnOp op x
  | .convert src dst x => qConvert src dst x
  | .makeInterface ty x => qMakeInterface ty x
  | .makeFunc fn first captured => qMakeFunc fn first captured
  | .fieldAddr s x f => qFieldAddr s x f
  | .field ty x f => qField ty x f
  | .indexAddr ty x ix => qIndexAddr ty x ix
  | .index ty x ix => qIndex ty x ix
  | .lookup ty x ix ok => qLookup ty x ix ok
  | .slice ty x lo hi mx => qSlice ty x lo hi mx
  | .extract x i => qExtract x i
  | .build ty parts => qBuild ty parts
  | .entry x => qEntry x
  | .typeAssert x xt as ok => qTypeAssert x xt as ok
  | .call c => qCall c
  | _ => qNo) P t tmps o.type K

/-- Operations that make a block and do nothing else: the block, and the value, if the block's number is nx. -/
abbrev AT := Program → Nat → TM → (Blk → Value → Bool) → Bool
noncomputable def aNo : AT := fun _ _ _ _ => false
noncomputable def aAlloc (e : TypeId) : AT := fun P nx _ K => zeroK P e fun zs => K (.cells zs e false) (.pointer (some ⟨nx, 0, none⟩))
noncomputable def aBox (e : TypeId) (x : Operand) : AT := fun _ nx tmps K => evK tmps x fun v => Array.casesOn v.cells fun cs => K (.cells cs e false) (.pointer (some ⟨nx, 0, none⟩))
noncomputable def aBuildSlice (ty : TypeId) (len : Nat) (parts : Array (Nat × Operand)) : AT := fun P nx tmps K => undK P ty fun d => match d with
  | .slice e => zeroK P e fun zs => lrep len zs fun cs => infK P e fun i => Bool.casesOn (Nat.ble (Nat.mul len i.size) 16777216 && Nat.beq zs.length i.size && Nat.ble len 1048576) false
      (evpK tmps parts.toList fun ps => match Instr.fill (fun j => some (j * i.size, i.size)) ⟨cs⟩ ps with
        | some ⟨cells⟩ => fL cells fun cells => K (.cells cells e false) (.slice (some ⟨nx, 0, none⟩) len len)
        | none => false)
  | _ => false
noncomputable def aMakeSlice (ty : TypeId) (l c : Operand) : AT := fun P nx tmps K => evK tmps l fun lv => evK tmps c fun cv => natK lv fun l => natK cv fun c => undK P ty fun d => match d with
  | .slice e => infK P e fun i => Bool.casesOn (Nat.ble l c && Nat.ble (Nat.mul c i.bytes) 140737488355328 && Nat.ble c 4294967296) false
      (zeroK P e fun zs => Bool.casesOn (Nat.beq zs.length i.size) false (lrep c zs fun cs => K (.cells cs e false) (.slice (some ⟨nx, 0, none⟩) l c)))
  | _ => false
noncomputable def aMakeMap (r : Option Operand) : AT := fun _ nx _ K => match r with
  | none => K (.map [] 0) (.map (some nx))
  | some _ => false
noncomputable def aConvert (src dst : TypeId) (x : Operand) : AT := fun P nx tmps K => evK tmps x fun v => undK P src fun s => undK P dst fun d => match s, d, v with
  | .string, .slice e, .string s => undK P e fun ed => match ed with
    | .int .u8 => infK P e fun i => Bool.casesOn (Nat.beq i.size 1 && Nat.ble s.size 1048576) false
        (K (.cells (s.data.toList.map fun b => .int .u8 (Int.ofNat b.toNat)) e true) (.slice (some ⟨nx, 0, none⟩) s.size capU))
    | _ => false
  | _, _, _ => false
noncomputable def allocK (P : Program) (nx : Nat) (tmps : TM) (o : Oper) (K : Blk → Value → Bool) : Bool :=
  (match o.op with
  | .alloc e => aAlloc e
  | .box e x => aBox e x
  | .buildSlice ty len parts => aBuildSlice ty len parts
  | .makeSlice ty l c => aMakeSlice ty l c
  | .makeMap _ r => aMakeMap r
  | .convert src dst x => aConvert src dst x
  | _ => aNo) P nx tmps K

def isAlloc (P : Program) (o : Oper) : Bool :=
  match o.op with
  | .alloc _ | .box _ _ | .buildSlice _ _ _ | .makeSlice _ _ _ | .makeMap _ _ => true
  | .convert _ dst _ => match P.underlying dst with | some (.slice _) => true | _ => false
  | _ => false

/-- An operation that is no quiet one and makes no block alone. -/
def isEff (o : Oper) : Bool :=
  match o.op with
  | .call { callee := .builtin b, .. } => match b with
    | .len | .cap | .min | .max => false
    | _ => true
  | .convert src dst _ => Nat.beq src dst
  | .move _ | .pick _ _ _ | .load _ _ | .nilCheck _ | .binOp _ _ _ _ _ | .unOp _ _ _ | .makeInterface _ _ | .makeFunc _ _ _ | .fieldAddr _ _ _ | .field _ _ _
  | .indexAddr _ _ _ | .index _ _ _ | .lookup _ _ _ _ | .slice _ _ _ _ _ | .extract _ _ | .build _ _ | .typeAssert _ _ _ _ | .entry _
  | .alloc _ | .box _ _ | .buildSlice _ _ _ | .makeSlice _ _ _ | .makeMap _ _ => false
  | _ => true

def oneCell : Value → Bool
  | .agg _ | .tuple _ => false
  | _ => true
noncomputable def allOne : List Value → Bool := fun xs => List.rec true (fun x _ ih => Bool.casesOn (oneCell x) false ih) xs

/-- The first cells of a slice or a string that is appended. -/
noncomputable def rowK (t : Tr) (size : Nat) (x : Value) (K : Nat → List Value → Bool) : Bool :=
  match x with
  | .slice none _ _ => K 0 []
  | .slice (some ⟨b, off, _⟩) n _ => readK t b fun xs => ldrop xs off fun ys => ltake (Nat.mul n size) ys fun zs => K n zs
  | .string s => K s.size (s.data.toList.map fun b => .int .u8 (Int.ofNat b.toNat))
  | _ => false

/-- What is appended: the cells of a slice or a string, or so many zeros. -/
noncomputable def newsK (P : Program) (t : Tr) (e : TypeId) (size : Nat) (yd : TypeDesc) (u : Value) (K : Nat → List Value → Bool) : Bool :=
  match yd with
  | .slice _ | .string => rowK t size u K
  | .int .i64 => natK u fun n => Bool.casesOn (Nat.ble n 1048576) false (zeroK P e fun zs => Bool.casesOn (Nat.beq zs.length size) false (lrep n zs fun cs => K n cs))
  | _ => false

/-- A new block. -/
noncomputable def newK (t : Tr) (nx : Nat) (b : Blk) (K : Tr → Nat → Bool) : Bool :=
  Bool.casesOn (Nat.ble 4095 nx) (Tr.setK D t nx (some b) fun t => fN (Nat.succ nx) fun nx' => K t nx') false

/-! Effects that call nothing. -/
abbrev ET := Program → Tr → Nat → TM → (Value → Tr → Nat → Bool) → Bool
noncomputable def eNo : ET := fun _ _ _ _ _ => false
noncomputable def eAssign (x : Operand) : ET := fun _ t nx tmps K => evK tmps x fun v => K v t nx
noncomputable def eConvert (src dst : TypeId) (x : Operand) : ET := fun P t nx tmps K => evK tmps x fun v => Bool.casesOn (Nat.beq src dst) false (undK P src fun d => match d, v with
  | .slice e, .slice (some ⟨b, off, s⟩) n c => undK P e fun ed => match ed with
    | .int .u8 => Bool.casesOn (Nat.beq c capE) (cellsK t b fun _ _ _ => K (.slice (some ⟨b, off, s⟩) n c) t nx) false
    | _ => false
  | _, _ => false)
noncomputable def eStore (ty : TypeId) (x y : Operand) : ET := fun P t nx tmps K => evK tmps x fun a => evK tmps y fun v => match a with
  | .pointer (some ⟨b, off, _⟩) => cellsK t b fun xs e g => infK P ty fun i =>
      Array.casesOn v.cells fun vs => Bool.casesOn (Nat.beq vs.length i.size && allOne vs) false
        (lput xs off vs fun xs' => Tr.setK D t b (some (.cells xs' e g)) fun t' => K undef t' nx)
  | _ => false
/-- The capacity is known, and there is no room. -/
noncomputable def apGrow (t : Tr) (nx : Nat) (e : TypeId) (size : Nat) (s : Value) (n m : Nat) (news : List Value) (K : Value → Tr → Nat → Bool) : Bool :=
  rowK t size s fun _ old => lapp old news fun cs => Bool.casesOn (Nat.beq cs.length (Nat.mul (Nat.add n m) size)) false
    (newK t nx (.cells cs e true) fun t' nx' => K (.slice (some ⟨nx, 0, none⟩) (Nat.add n m) capU) t' nx')
/-- It is known, and there is. -/
noncomputable def apRoom (t : Tr) (nx : Nat) (size : Nat) (base : Option Addr) (n m c : Nat) (news : List Value) (K : Value → Tr → Nat → Bool) : Bool :=
  match base with
  | some ⟨b, off, _⟩ => cellsK t b fun xs e' g => lput xs (Nat.add off (Nat.mul n size)) news fun xs' => Tr.setK D t b (some (.cells xs' e' g)) fun t' => K (.slice base (Nat.add n m) c) t' nx
  | none => false
/-- It is not known: what was there is given up. -/
noncomputable def apAny (t : Tr) (nx : Nat) (e : TypeId) (size : Nat) (base : Option Addr) (n m : Nat) (news : List Value) (K : Value → Tr → Nat → Bool) : Bool :=
  match base with
  | some ⟨b, off, _⟩ => Nat.casesOn off
    (cellsK t b fun xs e' g => Bool.casesOn (g && Nat.beq e' e) false (ltake (Nat.mul n size) xs fun old => lapp old news fun cs => Bool.casesOn (Nat.beq cs.length (Nat.mul (Nat.add n m) size)) false
      (Tr.setK D t b none fun t0 => newK t0 nx (.cells cs e true) fun t' nx' => K (.slice (some ⟨nx, 0, none⟩) (Nat.add n m) capU) t' nx')))
    (fun _ => false)
  | none => false
noncomputable def apK (P : Program) (t : Tr) (nx : Nat) (e : TypeId) (i : TypeInfo) (s : Value) (m : Nat) (news : List Value) (K : Value → Tr → Nat → Bool) : Bool :=
  match s with
  | .slice base n c =>
    Nat.casesOn m
      (Bool.casesOn (Nat.beq c capE) (Bool.casesOn (Nat.ble n c && news.isEmpty) false (K (.slice base n c) t nx)) false)
      (fun _ => Bool.casesOn (Nat.ble (Nat.add n m) 1048576 && allOne news && Nat.beq news.length (Nat.mul m i.size)) false
        (Bool.casesOn (Nat.ble capU c)
          (Bool.casesOn (Nat.ble (Nat.add n m) c) (apGrow t nx e i.size s n m news K) (apRoom t nx i.size base n m c news K))
          (Bool.casesOn (Nat.beq c capU) false (apAny t nx e i.size base n m news K))))
  | _ => false
noncomputable def eAppend (args : List Operand) (argTypes : List TypeId) : ET := fun P t nx tmps K => match args, argTypes with
  | [x, y], [tx, ty] => evK tmps x fun s => evK tmps y fun u => undK P tx fun d => match d with
    | .slice e => undK P ty fun yd => infK P e fun i => Nat.casesOn i.size false fun _ => zeroK P e fun zs => Bool.casesOn (Nat.beq zs.length i.size && Nat.ble i.bytes 1048576) false (newsK P t e i.size yd u fun m news => apK P t nx e i s m news K)
    | _ => false
  | _, _ => false
noncomputable def updK (t : Tr) (nx : Nat) (b : Nat) (kd : TypeDesc) (kv v : Value) (K : Value → Tr → Nat → Bool) : Bool :=
  match Tr.get D t b with
  | some (.map es clock) => (match Instr.findNow kd kv es 0 with
    | some (some (i, _)) => lget es i fun e => lset es i { key := kv, val := v, born := e.born } fun es' => Tr.setK D t b (some (.map es' clock)) fun t' => K undef t' nx
    | some none => lapp es [{ key := kv, val := v, born := clock }] fun es' => fN (Nat.succ clock) fun clock' => Tr.setK D t b (some (.map es' clock')) fun t' => K undef t' nx
    | none => false)
  | _ => false
noncomputable def eMapUpdate (ty : TypeId) (x k y : Operand) : ET := fun P t nx tmps K => evK tmps x fun mv => evK tmps k fun kv => evK tmps y fun v => undK P ty fun d => match d with
  | .map key _ => undK P key fun kd => match mv with
    | .map (some b) => Bool.casesOn (plainKey kd && isLit0 kv) false (updK t nx b kd kv v K)
    | _ => false
  | _ => false
noncomputable def eRange (ty : TypeId) (x : Operand) : ET := fun P t nx tmps K => evK tmps x fun v => undK P ty fun d => match d, v with
  | .string, .string s => newK t nx (.strIter s 0) fun t' nx' => K (.pointer (some ⟨nx, 0, none⟩)) t' nx'
  | .map _ _, .map (some b) => match Tr.get D t b with
    | some (.map _ clock) => newK t nx (.mapIter b clock [] clock) fun t' nx' => K (.pointer (some ⟨nx, 0, none⟩)) t' nx'
    | _ => false
  | _, _ => false
noncomputable def nextStr (r : Nat) (s : ByteArray) (pos : Nat) : ET := fun _ t nx _ K => Bool.casesOn (Nat.ble s.size pos)
  (Prod.casesOn (Utf8.decode s pos) fun c width => fN (Nat.add pos width) fun pos' => Tr.setK D t r (some (.strIter s pos')) fun t' => K (.tuple #[.bool true, .int .i64 (Int.ofNat pos), .int .i32 c]) t' nx)
  (K (.tuple #[.bool false]) t nx)
noncomputable def nextMap (r m since : Nat) (seen : List Nat) (last : Nat) : ET := fun _ t nx _ K => match Tr.get D t m with
  | some (.map es clock) =>
    match (!seen.isEmpty && !es.isEmpty && es.all fun e => Nat.ble last e.born), es.filter (fun e => !seen.contains e.born) with
    | false, [] => K (.tuple #[.bool false]) t nx
    | false, [e] => Bool.casesOn (Nat.ble since e.born)
        (Tr.setK D t r (some (.mapIter m since (seen ++ [e.born]) clock)) fun t' => K (.tuple #[.bool true, e.key, e.val]) t' nx)
        false
    | _, _ => false
  | _ => false
noncomputable def nextK (t : Tr) (r : Nat) (isString : Bool) : ET := match Tr.get D t r, isString with
  | some (.strIter s pos), true => nextStr r s pos
  | some (.mapIter m since seen last), false => nextMap r m since seen last
  | _, _ => eNo
noncomputable def eNext (x : Operand) (isString : Bool) : ET := fun P t nx tmps K => evK tmps x fun v => match v with
  | .pointer (some ⟨r, 0, _⟩) => nextK t r isString P t nx tmps K
  | _ => false
noncomputable def effK (P : Program) (t : Tr) (nx : Nat) (tmps : TM) (o : Oper) (K : Value → Tr → Nat → Bool) : Bool :=
  (match o.op with
  | .assign x => eAssign x
  | .convert src dst x => eConvert src dst x
  | .store ty x y => eStore ty x y
  | .call ⟨.builtin .append, args, argTypes⟩ => eAppend args.toList argTypes.toList
  | .mapUpdate ty x k y => eMapUpdate ty x k y
  | .insert ty x k y => eMapUpdate ty x k y
  | .range ty x => eRange ty x
  | .next x isString => eNext x isString
  | _ => eNo) P t nx tmps K

/-! The plan of a drawn region. -/
structure Stage where
  first : List Nat
  again : List Nat
  eff : Option Nat

def bits (b : Array Nat) (i : Nat) : Nat := b.getD i 0
def loOf (b : Array Nat) (effs : List Nat) (i : Nat) : Nat := (effs.filter fun e => (bits b i).testBit e).length
def hiOf (b : Array Nat) (effs : List Nat) (i : Nat) : Nat := (effs.filter fun e => !(bits b e).testBit i).length
def stages (b : Array Nat) (quiets : List Nat) (effs : List Nat) : (k : Nat) → List Nat → List Stage
  | k, [] => [{ first := quiets.filter fun i => loOf b effs i == k, again := quiets.filter fun i => loOf b effs i < k && k ≤ hiOf b effs i, eff := none }]
  | k, e :: rest => { first := quiets.filter fun i => loOf b effs i == k, again := quiets.filter fun i => loOf b effs i < k && k ≤ hiOf b effs i, eff := some e } :: stages b quiets effs (k + 1) rest
/-! A drawn region that the plan is good for. -/
def quietAt (ops : Array Oper) (i : Nat) : Bool := match ops[i]? with | some o => !isEff o | none => false
def effAt (ops : Array Oper) (i : Nat) : Bool := match ops[i]? with | some o => isEff o | none => false
def effsOf (ops : Array Oper) : List Nat := (List.range ops.size).filter (effAt ops)
def quietsOf (ops : Array Oper) : List Nat := (List.range ops.size).filter (quietAt ops)
def plan (ops : Array Oper) : List Stage := stages (Region.before ops) (quietsOf ops) (effsOf ops) 0 (effsOf ops)
def isDst (o : Option Tmp) (d : Tmp) : Bool := match o with | some e => Nat.beq e d | none => false
def makes (ops : Array Oper) (j : Nat) (d : Tmp) : Bool := match ops[j]? with | some o => isDst o.dst d | none => false
/-- Each quiet operation that makes the temporary comes before. -/
def madeOk (ops : Array Oper) (n bi : Nat) (d : Tmp) : Bool := (List.range n).all fun j => !(makes ops j d && quietAt ops j) || bi.testBit j
def operOk (P : Program) (ops : Array Oper) (n bi i : Nat) (o : Oper) : Bool :=
  (o.after.toList.all fun e => !Region.binds .any e || Nat.blt e.on i) &&
  ((match o.guard with | none => true | some (j, _) => effAt ops j || bi.testBit j) &&
  ((o.op.operands.toList.all fun x => match x with | .tmp d => madeOk ops n bi d | _ => true) &&
  ((match o.dst with | none => isEff o || !isAlloc P o | some d => (List.range n).all fun j => Nat.beq j i || !makes ops j d) &&
  (!isEff o || (List.range n).all fun j => Nat.ble i j || !effAt ops j || bi.testBit j))))
def drawOk (P : Program) (ops : Array Oper) : Bool :=
  (List.range ops.size).all fun i => match ops[i]? with | some o => operOk P ops ops.size (bits (Region.before ops) i) i o | none => false

/-! Frames. -/
inductive AItem where
  | code (c : Code)
  | inBlock (id : Nat)
  | inLoop (body : Code)
  | inScope (body : Code)
  | inRegion (ops : Array Oper) (rest : List Oper)
  | inDraw (ops : Array Oper) (st : List Stage) (begun : Bool)
  | inRangeFunc (l : Nat)
  | endRangeFunc (l : Nat)
  | beginRound

inductive ADef where
  | coll (r : Nat)
  | call (f : FuncId) (captured args : List Value)

structure AFr where
  fn : FuncId
  tmps : TM
  todo : List AItem
  defers : List ADef
  ret : Bool
  dfd : Bool
  round : Option Nat

abbrev Cont := Tr → Nat → AFr → List AFr → Bool

noncomputable def wantedK (ops : Array Oper) (tmps : TM) (o : Oper) (K : Bool → Bool) : Bool :=
  match o.guard with
  | none => K true
  | some (j, want) => match ops[j]? with
    | some oj => match oj.dst with
      | some d => tget tmps d fun v => match v with
        | .bool b => Bool.casesOn b (Bool.casesOn want (K true) (K false)) (Bool.casesOn want (K false) (K true))
        | _ => K false
      | none => false
    | none => false

/-- The callee's frame. -/
noncomputable def enterK (P : Program) (f : FuncId) (args : List Value) (dfd : Bool) (K : AFr → Bool) : Bool :=
  match P.funcs[f]? with
  | some fn => match fn.body with
    | some c => Bool.casesOn (fn.name == "runtime.NumGoroutine")
        (tnew fn.ntmps args fun tmps => K ⟨f, tmps, [.code c], [], false, dfd, none⟩)
        false
    | none => false
  | none => false

/-- Where a method's receiver is looked for. -/
inductive APl where
  | val (v : Value)
  | var (b off : Nat)
noncomputable def getPl (P : Program) (t : Tr) (ty : TypeId) (x : APl) (K : Value → Bool) : Bool :=
  match x with
  | .val v => K v
  | .var b off => loadK P t ty b off K
noncomputable def followK (P : Program) (t : Tr) : List FieldStep → TypeId → APl → (TypeId → APl → Bool) → Bool := fun l => List.rec
  (fun ty x K => K ty x)
  (fun s _ ih ty x K => undK P s.struct fun d => match d with
    | .struct fields => Option.casesOn fields[s.index]? false fun f => match s.deref with
      | true => getPl P t ty x fun v => match v with
        | .pointer (some ⟨b, off, _⟩) => infK P f.type fun i => Nat.casesOn i.size false fun _ => ih f.type (.var b (Nat.add off f.offset)) K
        | _ => false
      | false => match x with
        | .var b off => infK P f.type fun i => Nat.casesOn i.size false fun _ => ih f.type (.var b (Nat.add off f.offset)) K
        | .val (.agg cs) => partK P f.type cs.toList f.offset fun v => ih f.type (.val v) K
        | .val _ => false
    | _ => false) l
noncomputable def methK (P : Program) (t : Tr) (name : String) : Nat → TypeId → Value → (FuncId → Value → Bool) → Bool := fun n => Nat.rec
  (fun _ _ _ => false)
  (fun _ ih ty v K => infK P ty fun i => match i.methods.find? (fun m => m.name == name) with
    | none => false
    | some m => followK P t m.path.toList ty (.val v) fun xt x => match m.func with
      | none => getPl P t xt x fun w => match w with
        | .iface ty' v' => ih ty' v' K
        | _ => false
      | some (f, ptr) => undK P xt fun d => match d, ptr, x with
        | .pointer _, true, x => getPl P t xt x fun w => K f w
        | .pointer _, false, _ => false
        | _, true, .var b off => K f (.pointer (some ⟨b, off, none⟩))
        | _, true, .val _ => false
        | _, false, x => getPl P t xt x fun w => K f w) n

/-- A call of a function value, or of a method: the function and its arguments. -/
noncomputable def calleeK (P : Program) (t : Tr) (tmps : TM) (c : Call) (K : FuncId → List Value → Bool) : Bool :=
  evsK tmps c.args.toList fun args => match c.callee with
  | .value f => evK tmps f fun fv => match fv with
    | .func (.func g) ⟨first⟩ ⟨captured⟩ => lapp args captured fun l => lapp first l fun l => K g l
    | _ => false
  | .invoke recv name => evK tmps recv fun rv => match rv with
    | .iface ty v => methK P t name 8 ty v fun f v => K f (v :: args)
    | _ => false
  | .builtin _ => false

noncomputable def zipSet : List Tmp → List Value → TM → (TM → Bool) → Bool := fun ps => List.rec
  (fun vs tmps K => List.casesOn vs (K tmps) (fun _ _ => false))
  (fun p _ ih vs tmps K => List.casesOn vs false (fun v vs => tset tmps p v fun tmps => ih vs tmps K)) ps

/-- One operation in a frame: 'back' is what is left to do behind it, 'wait' what stands there while a callee runs. -/
abbrev OT := Program → Tr → Nat → FuncId → TM → List AItem → List AItem → List ADef → Bool → Option Nat → List AFr → Oper → Cont → Bool
noncomputable def oQuiet : OT := fun P t nx fn tmps _ back defers dfd round cs o K => quietK P t tmps o fun v => putK tmps o.dst v fun tmps => K t nx ⟨fn, tmps, back, defers, false, dfd, round⟩ cs
noncomputable def oAlloc : OT := fun P t nx fn tmps _ back defers dfd round cs o K => allocK P nx tmps o fun b v => newK t nx b fun t nx' => putK tmps o.dst v fun tmps => K t nx' ⟨fn, tmps, back, defers, false, dfd, round⟩ cs
noncomputable def oEff : OT := fun P t nx fn tmps _ back defers dfd round cs o K => effK P t nx tmps o fun v t nx => putK tmps o.dst v fun tmps => K t nx ⟨fn, tmps, back, defers, false, dfd, round⟩ cs
noncomputable def oRecover : OT := fun _ t nx fn tmps _ back defers dfd round cs o K => Bool.casesOn (dfd && cs.isEmpty) (match round with
  | none => putK tmps o.dst .nilIface fun tmps => K t nx ⟨fn, tmps, back, defers, false, dfd, none⟩ cs
  | some _ => false) false
noncomputable def oYield (l : Nat) (args : List Operand) : OT := fun _ t nx fn tmps wait _ defers dfd round cs _ K => match Tr.get D t l with
  | some (.loop lp) => evsK tmps args fun args => zipSet lp.params.toList args lp.tmps fun rt =>
      K t nx ⟨lp.fn, rt, [.code lp.assign, .beginRound, .code lp.body], [], false, false, some l⟩ (⟨fn, tmps, wait, defers, false, dfd, round⟩ :: cs)
  | _ => false
noncomputable def oEnter (c : Call) : OT := fun P t nx fn tmps wait _ defers dfd round cs _ K =>
  calleeK P t tmps c fun f args => enterK P f args false fun fr => K t nx fr (⟨fn, tmps, wait, defers, false, dfd, round⟩ :: cs)
noncomputable def oValue (c : Call) (f : Operand) : OT := fun P t nx fn tmps wait back defers dfd round cs o K => evK tmps f fun fv => (match fv with
  | .func (.yield l) _ _ => oYield l c.args.toList
  | _ => oEnter c) P t nx fn tmps wait back defers dfd round cs o K
noncomputable def oBuiltin (b : Builtin) : OT := match b with
  | .recover => oRecover
  | _ => oEff
noncomputable def oCall (c : Call) : OT := match c with
  | ⟨.builtin b, _, _⟩ => oBuiltin b
  | ⟨.value f, args, ts⟩ => oValue ⟨.value f, args, ts⟩ f
  | ⟨.invoke r m, args, ts⟩ => oEnter ⟨.invoke r m, args, ts⟩
noncomputable def oDefer (c : Call) : OT := fun _ t nx fn tmps _ back defers dfd round cs o K => match round with
  | some _ => false
  | none => match c.callee with
    | .value f => evK tmps f fun fv => match fv with
      | .func (.func g) ⟨first⟩ ⟨captured⟩ => evsK tmps c.args.toList fun args => lapp first args fun args => putK tmps o.dst undef fun tmps =>
          K t nx ⟨fn, tmps, back, .call g captured args :: defers, false, dfd, none⟩ cs
      | _ => false
    | _ => false
noncomputable def oLoud : OT := fun P t nx fn tmps wait back defers dfd round cs o K => (match o.op with
  | .call c => oCall c
  | .defer c => oDefer c
  | _ => oEff) P t nx fn tmps wait back defers dfd round cs o K
noncomputable def oStill : OT := fun P t nx fn tmps wait back defers dfd round cs o K => (match isAlloc P o with
  | false => oQuiet
  | true => oAlloc) P t nx fn tmps wait back defers dfd round cs o K
noncomputable def operK : OT := fun P t nx fn tmps wait back defers dfd round cs o K => (match isEff o with
  | false => oStill
  | true => oLoud) P t nx fn tmps wait back defers dfd round cs o K

/-- The block of a value that an operation has made. -/
def blkOf : Value → Option Nat
  | .pointer (some ⟨b, _, _⟩) => some b
  | .slice (some ⟨b, _, _⟩) _ _ => some b
  | .map (some b) => some b
  | _ => none
def atBlk (v : Value) (n : Nat) : Bool := match blkOf v with
  | some b => Nat.beq b n
  | none => false

/-- The quiet operations of a stage that come up here first. -/
noncomputable def firstK (P : Program) (ops : Array Oper) : List Nat → Tr → Nat → TM → (Tr → Nat → TM → Bool) → Bool := fun l => List.rec
  (fun t nx tmps K => K t nx tmps)
  (fun i _ ih t nx tmps K => match ops[i]? with
    | none => false
    | some o => wantedK ops tmps o fun w => Bool.casesOn w
      (putK tmps o.dst undef fun tmps => ih t nx tmps K)
      (match isAlloc P o with
        | false => quietK P t tmps o fun v => putK tmps o.dst v fun tmps => ih t nx tmps K
        | true => allocK P nx tmps o fun b v => Bool.casesOn (atBlk v nx) false (match Tr.get D t nx with
          | some _ => false
          | none => newK t nx b fun t nx' => putK tmps o.dst v fun tmps => ih t nx' tmps K))) l

/-- Those that may come at this stage, too: they answer as before. -/
noncomputable def againK (P : Program) (ops : Array Oper) (t : Tr) (tmps : TM) : List Nat → Bool → Bool := fun l => List.rec
  (fun K => K)
  (fun i _ ih K => match ops[i]? with
    | none => false
    | some o => match o.dst with
      | none => false
      | some d => tget tmps d fun old => wantedK ops tmps o fun w => Bool.casesOn w
        (match old with | .tuple ⟨[]⟩ => ih K | _ => false)
        (match isAlloc P o with
          | false => quietK P t tmps o fun v => Bool.casesOn (same1 old v) false (ih K)
          | true => match blkOf old with
            | some b => Bool.casesOn (Nat.ble 4096 b) (allocK P b tmps o fun blk v => Bool.casesOn (same1 old v) false (match Tr.get D t b with
              | some blk' => Bool.casesOn (sameBlk blk blk') false (ih K)
              | none => false)) false
            | none => false)) l

def aexitTo (id : Nat) : List AItem → Option (List AItem)
  | .inBlock id' :: k => if id' == id then some k else aexitTo id k
  | _ :: k => aexitTo id k
  | [] => none

/-- A value comes back to the frame that waits. -/
noncomputable def finishK (fr : AFr) (v : Value) (K : AFr → Bool) : Bool :=
  match fr with
  | ⟨fn, tmps, todo, defers, ret, dfd, round⟩ => match ret with
    | true => false
    | false => match todo with
      | .inRegion ops (o :: rest) :: k => putK tmps o.dst v fun tmps => K ⟨fn, tmps, .inRegion ops rest :: k, defers, false, dfd, round⟩
      | .inDraw ops (s :: st) true :: k => match s.eff with
        | some e => match ops[e]? with
          | some o => putK tmps o.dst v fun tmps => K ⟨fn, tmps, .inDraw ops st false :: k, defers, false, dfd, round⟩
          | none => false
        | none => false
      | .inRangeFunc l :: k => K ⟨fn, tmps, .endRangeFunc l :: k, defers, false, dfd, round⟩
      | _ => false

/-- The frame returns a value. -/
noncomputable def returnK (t : Tr) (nx : Nat) (dfd : Bool) (v : Value) (cs : List AFr) (top : Value → Bool) (K : Cont) : Bool :=
  match cs with
  | [] => match dfd with
    | false => top v
    | true => false
  | c :: cs => match dfd with
    | true => K t nx c cs
    | false => finishK c v fun c => K t nx c cs

noncomputable def resultsK (P : Program) (t : Tr) (tmps : TM) : List ResultVar → (List Value → Bool) → Bool := fun l => List.rec
  (fun K => K [])
  (fun r _ ih K => match r with
    | .tmp x => tget tmps x fun v => ih fun vs => K (v :: vs)
    | .cell a ty => tget tmps a fun v => match v with
      | .pointer (some ⟨b, off, _⟩) => loadK P t ty b off fun v => ih fun vs => K (v :: vs)
      | _ => false) l

/-- A round's end. -/
noncomputable def endRoundK (t : Tr) (nx : Nat) (l : Nat) (jump : Option Code) (cs : List AFr) (K : Cont) : Bool :=
  match Tr.get D t l, cs with
  | some (.loop ⟨_, _, fn, tmps, params, assign, body, defers⟩), c :: cs =>
    Option.casesOn jump
      (Tr.setK D t l (some (.loop ⟨.ready, none, fn, tmps, params, assign, body, defers⟩)) fun t => finishK c (.bool true) fun c => K t nx c cs)
      (fun j => Tr.setK D t l (some (.loop ⟨.done, some j, fn, tmps, params, assign, body, defers⟩)) fun t => finishK c (.bool false) fun c => K t nx c cs)
  | _, _ => false

noncomputable def leaveK (t : Tr) (nx : Nat) (fr : AFr) (cs : List AFr) (jump : Option Code) (K : Cont) : Bool :=
  match fr with
  | ⟨fn, tmps, todo, defers, _, dfd, round⟩ => match round with
    | none => match jump with
      | none | some .ret => K t nx ⟨fn, tmps, todo, defers, true, dfd, none⟩ cs
      | _ => false
    | some l => match dfd with
      | true => false
      | false => endRoundK t nx l jump cs K

noncomputable def unwindK (P : Program) (t : Tr) (nx : Nat) (fr : AFr) (cs : List AFr) (top : Value → Bool) (K : Cont) : Bool :=
  match fr with
  | ⟨fn, tmps, todo, defers, _, dfd, round⟩ => match defers with
    | .coll r :: ds => match Tr.get D t r with
      | some (.dfd false) => Tr.setK D t r (some (.dfd true)) fun t => K t nx ⟨fn, tmps, todo, ds, true, dfd, round⟩ cs
      | _ => false
    | .call f captured args :: ds => lapp args captured fun args => enterK P f args true fun fr' => K t nx fr' (⟨fn, tmps, todo, ds, true, dfd, round⟩ :: cs)
    | [] => match P.funcs[fn]? with
      | some f => resultsK P t tmps f.results.toList fun vs => match vs with
        | [v] => returnK t nx dfd v cs top K
        | vs => returnK t nx dfd (.tuple ⟨vs⟩) cs top K
      | none => false

/-- A step, told apart by what is to be done next: each kind a function of its own. -/
abbrev ST := Program → Tr → Nat → FuncId → TM → List AItem → List ADef → Bool → Option Nat → List AFr → Cont → Bool
noncomputable def sNo : ST := fun _ _ _ _ _ _ _ _ _ _ _ => false
noncomputable def sSkip : ST := fun _ t nx fn tmps k defers dfd round cs K => K t nx ⟨fn, tmps, k, defers, false, dfd, round⟩ cs
noncomputable def sSeq (a b : Code) : ST := fun _ t nx fn tmps k defers dfd round cs K => K t nx ⟨fn, tmps, .code a :: .code b :: k, defers, false, dfd, round⟩ cs
noncomputable def sCode1 (a : Code) : ST := fun _ t nx fn tmps k defers dfd round cs K => K t nx ⟨fn, tmps, .code a :: k, defers, false, dfd, round⟩ cs
noncomputable def sCond (c : Operand) (a b : Code) : ST := fun P t nx fn tmps k defers dfd round cs K => evK tmps c fun v => (match v with
  | .bool true => sCode1 a
  | .bool false => sCode1 b
  | _ => sNo) P t nx fn tmps k defers dfd round cs K
noncomputable def sBlock (id : Nat) (body : Code) : ST := fun _ t nx fn tmps k defers dfd round cs K => K t nx ⟨fn, tmps, .code body :: .inBlock id :: k, defers, false, dfd, round⟩ cs
noncomputable def sLoop (body : Code) : ST := fun _ t nx fn tmps k defers dfd round cs K => K t nx ⟨fn, tmps, .code body :: .inLoop body :: k, defers, false, dfd, round⟩ cs
noncomputable def sScope (body : Code) : ST := fun _ t nx fn tmps k defers dfd round cs K => K t nx ⟨fn, tmps, .code body :: .inScope body :: k, defers, false, dfd, round⟩ cs
noncomputable def sExit (id : Nat) : ST := fun _ t nx fn tmps k defers dfd round cs K => match aexitTo id k with
  | some k' => K t nx ⟨fn, tmps, k', defers, false, dfd, round⟩ cs
  | none => leaveK t nx ⟨fn, tmps, .code (.exit id) :: k, defers, false, dfd, round⟩ cs (some (.exit id)) K
noncomputable def sRet : ST := fun _ t nx fn tmps k defers dfd round cs K => leaveK t nx ⟨fn, tmps, .code .ret :: k, defers, false, dfd, round⟩ cs (some .ret) K
noncomputable def sRegion (ops : Array Oper) : ST := fun _ t nx fn tmps k defers dfd round cs K => K t nx ⟨fn, tmps, .inRegion ops ops.toList :: k, defers, false, dfd, round⟩ cs
noncomputable def sDraw (ops : Array Oper) : ST := fun P t nx fn tmps k defers dfd round cs K => Bool.casesOn (drawOk P ops) false (K t nx ⟨fn, tmps, .inDraw ops (plan ops) false :: k, defers, false, dfd, round⟩ cs)
noncomputable def sRange0 (params : Array Tmp) (assign body : Code) (g : FuncId) (first captured : List Value) : ST := fun P t nx fn tmps k defers dfd _ cs K =>
  newK t nx (.dfd false) fun t nx1 => newK t nx1 (.loop ⟨.ready, none, fn, tmps, params, assign, body, nx⟩) fun t nx2 =>
    lapp [.func (.yield nx1) #[] #[]] captured fun l => lapp first l fun l => enterK P g l false fun fr' =>
      K t nx2 fr' (⟨fn, tmps, .inRangeFunc nx1 :: k, .coll nx :: defers, false, dfd, none⟩ :: cs)
noncomputable def sRange1 (params : Array Tmp) (assign body : Code) (g : FuncId) (first captured : List Value) (l : Nat) : ST := fun P t nx fn tmps k defers dfd _ cs K => match Tr.get D t l with
  | some (.loop lp) => newK t nx (.loop ⟨.ready, none, fn, tmps, params, assign, body, lp.defers⟩) fun t nx2 =>
    lapp [.func (.yield nx) #[] #[]] captured fun l' => lapp first l' fun l' => enterK P g l' false fun fr' =>
      K t nx2 fr' (⟨fn, tmps, .inRangeFunc nx :: k, defers, false, dfd, some l⟩ :: cs)
  | _ => false
noncomputable def sRange (f : Operand) (params : Array Tmp) (assign body : Code) : ST := fun P t nx fn tmps k defers dfd round cs K => evK tmps f fun fv => match fv with
  | .func (.func g) ⟨first⟩ ⟨captured⟩ => (match round with
    | none => sRange0 params assign body g first captured
    | some l => sRange1 params assign body g first captured l) P t nx fn tmps k defers dfd round cs K
  | _ => false
noncomputable def sCode (c : Code) : ST := match c with
  | .skip => sSkip
  | .label _ => sSkip
  | .seq a b => sSeq a b
  | .cond c a b => sCond c a b
  | .block id body => sBlock id body
  | .loop body => sLoop body
  | .scope body => sScope body
  | .exit id => sExit id
  | .ret => sRet
  | .region _ ops false => sRegion ops
  | .region _ ops true => sDraw ops
  | .rangeFunc f params assign body => sRange f params assign body
  | .goto _ => sNo
  | .refuse _ => sNo
noncomputable def sOp (ops : Array Oper) (o : Oper) (rest : List Oper) : ST := fun P t nx fn tmps k defers dfd round cs K => wantedK ops tmps o fun w => Bool.casesOn w
  (putK tmps o.dst undef fun tmps => K t nx ⟨fn, tmps, .inRegion ops rest :: k, defers, false, dfd, round⟩ cs)
  (operK P t nx fn tmps (.inRegion ops (o :: rest) :: k) (.inRegion ops rest :: k) defers dfd round cs o K)
noncomputable def sInRegion (ops : Array Oper) (rest : List Oper) : ST := match rest with
  | [] => sSkip
  | o :: rest => sOp ops o rest
noncomputable def sStage (ops : Array Oper) (s : Stage) (st : List Stage) : ST := fun P t nx fn tmps k defers dfd round cs K =>
  againK P ops t tmps s.again (firstK P ops s.first t nx tmps fun t nx tmps => match s.eff with
    | none => K t nx ⟨fn, tmps, .inDraw ops st false :: k, defers, false, dfd, round⟩ cs
    | some e => match ops[e]? with
      | some o => wantedK ops tmps o fun w => Bool.casesOn w
        (putK tmps o.dst undef fun tmps => K t nx ⟨fn, tmps, .inDraw ops st false :: k, defers, false, dfd, round⟩ cs)
        (operK P t nx fn tmps (.inDraw ops (s :: st) true :: k) (.inDraw ops st false :: k) defers dfd round cs o K)
      | none => false)
noncomputable def sInDraw (ops : Array Oper) (st : List Stage) (begun : Bool) : ST := match begun, st with
  | false, [] => sSkip
  | false, s :: st => sStage ops s st
  | true, _ => sNo
noncomputable def sEndRange (l : Nat) : ST := fun _ t nx fn tmps k defers dfd round cs K => match Tr.get D t l with
  | some (.loop ⟨st, pending, fn', tmps', params, assign, body, ds⟩) => match st with
    | .busy => false
    | _ => Tr.setK D t l (some (.loop ⟨.exhausted, pending, fn', tmps', params, assign, body, ds⟩)) fun t =>
        Option.casesOn pending (K t nx ⟨fn, tmps, k, defers, false, dfd, round⟩ cs) (fun j => K t nx ⟨fn, tmps, .code j :: k, defers, false, dfd, round⟩ cs)
  | _ => false
noncomputable def sBeginRound : ST := fun _ t nx fn tmps k defers dfd round cs K => match round with
  | none => false
  | some l => match Tr.get D t l with
    | some (.loop ⟨.ready, pending, fn', tmps', params, assign, body, ds⟩) =>
        Tr.setK D t l (some (.loop ⟨.busy, pending, fn', tmps', params, assign, body, ds⟩)) fun t => K t nx ⟨fn, tmps, k, defers, false, dfd, some l⟩ cs
    | _ => false
noncomputable def sItem (it : AItem) : ST := match it with
  | .code c => sCode c
  | .inBlock _ => sSkip
  | .inScope _ => sSkip
  | .inLoop body => sLoop body
  | .inRegion ops rest => sInRegion ops rest
  | .inDraw ops st begun => sInDraw ops st begun
  | .inRangeFunc _ => sNo
  | .endRangeFunc l => sEndRange l
  | .beginRound => sBeginRound
noncomputable def sEnd (P : Program) (t : Tr) (nx : Nat) (fn : FuncId) (tmps : TM) (todo : List AItem) (defers : List ADef) (dfd : Bool) (round : Option Nat) (cs : List AFr) (top : Value → Bool) (K : Cont) : Bool :=
  leaveK t nx ⟨fn, tmps, todo, defers, false, dfd, round⟩ cs none K
noncomputable def sNext (it : AItem) (k : List AItem) (P : Program) (t : Tr) (nx : Nat) (fn : FuncId) (tmps : TM) (todo : List AItem) (defers : List ADef) (dfd : Bool) (round : Option Nat) (cs : List AFr) (top : Value → Bool) (K : Cont) : Bool :=
  sItem it P t nx fn tmps k defers dfd round cs K
noncomputable def sBack (P : Program) (t : Tr) (nx : Nat) (fn : FuncId) (tmps : TM) (todo : List AItem) (defers : List ADef) (dfd : Bool) (round : Option Nat) (cs : List AFr) (top : Value → Bool) (K : Cont) : Bool :=
  unwindK P t nx ⟨fn, tmps, todo, defers, true, dfd, round⟩ cs top K
noncomputable def sFrame (P : Program) (t : Tr) (nx : Nat) (cs : List AFr) (top : Value → Bool) (K : Cont) (fn : FuncId) (tmps : TM) (todo : List AItem) (defers : List ADef) (ret dfd : Bool) (round : Option Nat) : Bool :=
  (match ret, todo with
  | true, _ => sBack
  | false, [] => sEnd
  | false, it :: k => sNext it k) P t nx fn tmps todo defers dfd round cs top K
noncomputable def stepK (P : Program) (t : Tr) (nx : Nat) (fr : AFr) (cs : List AFr) (top : Value → Bool) (K : Cont) : Bool :=
  AFr.casesOn fr (sFrame P t nx cs top K)

noncomputable def run (P : Program) (top : Value → Bool) (n : Nat) : Cont := Nat.rec (fun _ _ _ _ => false) (fun _ ih t nx fr cs => stepK P t nx fr cs top ih) n

end Go.Abs

/-! ## What the strict pieces of the abstract machine give: each, with what it hands on. -/
namespace Go.Abs
open Go
set_option linter.unusedVariables false
set_option linter.unusedSimpArgs false

section lists
variable {α : Type}

theorem lget_spec : ∀ (xs : List α) (i : Nat) (K : α → Bool), lget xs i K = true → ∃ v, xs[i]? = some v ∧ K v = true
  | [], i, K, h => by cases i <;> exact absurd h (by simp [lget])
  | x :: t, 0, K, h => ⟨x, rfl, h⟩
  | x :: t, i + 1, K, h => by
    obtain ⟨v, hv, hk⟩ := lget_spec t i K h
    exact ⟨v, by simpa using hv, hk⟩

theorem lset_spec : ∀ (xs : List α) (i : Nat) (v : α) (K : List α → Bool), lset xs i v K = true → i < xs.length ∧ K (xs.set i v) = true
  | [], i, v, K, h => by cases i <;> exact absurd h (by simp [lset])
  | x :: t, 0, v, K, h => ⟨by simp, h⟩
  | x :: t, i + 1, v, K, h => by
    obtain ⟨hv, hk⟩ := lset_spec t i v (fun t' => K (x :: t')) h
    exact ⟨by simpa using hv, by simpa using hk⟩

theorem ldrop_spec : ∀ (xs : List α) (i : Nat) (K : List α → Bool), ldrop xs i K = true → i ≤ xs.length ∧ K (xs.drop i) = true
  | [], 0, K, h => ⟨by simp, h⟩
  | [], i + 1, K, h => absurd h (by simp [ldrop])
  | x :: t, 0, K, h => ⟨by simp, h⟩
  | x :: t, i + 1, K, h => by
    obtain ⟨hv, hk⟩ := ldrop_spec t i K h
    exact ⟨by simpa using hv, by simpa using hk⟩

theorem ltake_spec : ∀ (n : Nat) (xs : List α) (K : List α → Bool), ltake n xs K = true → n ≤ xs.length ∧ K (xs.take n) = true
  | 0, xs, K, h => ⟨by simp, h⟩
  | n + 1, [], K, h => absurd h (by simp [ltake])
  | n + 1, x :: t, K, h => by
    obtain ⟨hv, hk⟩ := ltake_spec n t (fun t' => K (x :: t')) h
    exact ⟨by simpa using hv, by simpa using hk⟩

theorem lapp_eq : ∀ (xs ys : List α) (K : List α → Bool), lapp xs ys K = K (xs ++ ys)
  | [], ys, K => rfl
  | x :: t, ys, K => lapp_eq t ys (fun t' => K (x :: t'))

theorem lover_spec : ∀ (vs xs : List α) (K : List α → Bool), lover vs xs K = true → vs.length ≤ xs.length ∧ K (vs ++ xs.drop vs.length) = true
  | [], xs, K, h => ⟨by simp, h⟩
  | v :: vs, [], K, h => absurd h (by simp [lover])
  | v :: vs, x :: t, K, h => by
    obtain ⟨hv, hk⟩ := lover_spec vs t (fun t' => K (v :: t')) h
    exact ⟨by simpa using hv, by simpa using hk⟩

theorem lput_spec : ∀ (xs : List α) (i : Nat) (vs : List α) (K : List α → Bool), lput xs i vs K = true →
    i + vs.length ≤ xs.length ∧ K (xs.take i ++ vs ++ xs.drop (i + vs.length)) = true
  | [], 0, vs, K, h => by
    obtain ⟨hv, hk⟩ := lover_spec vs [] K h
    exact ⟨by simpa using hv, by simpa using hk⟩
  | [], i + 1, vs, K, h => absurd h (by simp [lput])
  | x :: t, 0, vs, K, h => by
    obtain ⟨hv, hk⟩ := lover_spec vs (x :: t) K h
    exact ⟨by simpa using hv, by simpa using hk⟩
  | x :: t, i + 1, vs, K, h => by
    obtain ⟨hv, hk⟩ := lput_spec t i vs (fun t' => K (x :: t')) h
    refine ⟨by simp; omega, ?_⟩
    have : i + 1 + vs.length = (i + vs.length) + 1 := by omega
    rw [this]
    simpa using hk

/-- n times a row. -/
def rep : Nat → List α → List α
  | 0, _ => []
  | n + 1, zs => zs ++ rep n zs
theorem lrep_eq : ∀ (n : Nat) (zs : List α) (K : List α → Bool), lrep n zs K = K (rep n zs)
  | 0, zs, K => rfl
  | n + 1, zs, K => by
    show lrep n zs (fun t => lapp zs t K) = _
    rw [lrep_eq n zs, lapp_eq]; rfl
theorem length_rep (n : Nat) (zs : List α) : (rep n zs).length = n * zs.length := by
  induction n with
  | zero => simp [rep]
  | succ n ih => simp [rep, ih, Nat.add_mul, Nat.add_comm]
theorem getElem?_rep (zs : List α) : ∀ (n i : Nat), i < n * zs.length → (rep n zs)[i]? = zs[i % zs.length]?
  | 0, i, h => by simp at h
  | n + 1, i, h => by
    rw [rep]
    by_cases hi : i < zs.length
    · rw [List.getElem?_append_left hi, Nat.mod_eq_of_lt hi]
    · have hle : zs.length ≤ i := by omega
      rw [List.getElem?_append_right hle, getElem?_rep zs n (i - zs.length) (by rw [Nat.add_mul] at h; omega), ← Nat.mod_eq_sub_mod hle]
theorem mem_rep {zs : List α} {n : Nat} {x : α} (h : x ∈ rep n zs) : x ∈ zs := by
  induction n with
  | zero => simp [rep] at h
  | succ n ih => rw [rep, List.mem_append] at h; exact h.elim id ih

theorem llen_eq : ∀ (xs : List α) (n : Nat) (K : Nat → Bool), llen xs n K = K (n + xs.length)
  | [], n, K => rfl
  | x :: t, n, K => by
    show llen t (Nat.succ n) K = _
    rw [llen_eq t]
    congr 1
    simp; omega
end lists

theorem fN_eq (n : Nat) (K : Nat → Bool) : fN n K = K n := by cases n <;> rfl
theorem fI_eq (n : Int) (K : Int → Bool) : fI n K = K n := by cases n <;> simp only [fI] <;> rw [fN_eq]
theorem fB_eq (b : Bool) (K : Bool → Bool) : fB b K = K b := by cases b <;> rfl
theorem fA_spec (a : Addr) (K : Addr → Bool) (h : fA a K = true) : K a = true := by
  obtain ⟨b, o, s⟩ := a
  cases s with
  | some s => exact absurd h (by simp [fA])
  | none => simpa [fA, fN_eq] using h
theorem fOA_spec (a : Option Addr) (K : Option Addr → Bool) (h : fOA a K = true) : K a = true := by
  cases a with
  | none => exact h
  | some a => exact fA_spec a (fun a => K (some a)) h
theorem fV0_spec (v : Value) (K : Value → Bool) (h : fV0 v K = true) : K v = true := by
  cases v <;> try exact h
  case bool b => simpa [fV0, fB_eq] using h
  case int k n => simpa [fV0, fI_eq] using h
  case pointer a => exact fOA_spec a (fun a => K (.pointer a)) h
  case slice a n c => simpa [fN_eq] using fOA_spec a (fun a => fN n fun n => fN c fun c => K (.slice a n c)) h
theorem fL_spec : ∀ (xs : List Value) (K : List Value → Bool), fL xs K = true → K xs = true
  | [], K, h => h
  | x :: t, K, h => fL_spec t (fun t => K (x :: t)) (fV0_spec x (fun x => fL t fun t => K (x :: t)) h)
theorem fV_spec (v : Value) (K : Value → Bool) (h : fV v K = true) : K v = true := by
  cases v <;> try exact h
  case bool b => simpa [fV, fB_eq] using h
  case int k n => simpa [fV, fI_eq] using h
  case pointer a => exact fOA_spec a (fun a => K (.pointer a)) h
  case slice a n c => simpa [fN_eq] using fOA_spec a (fun a => fN n fun n => fN c fun c => K (.slice a n c)) h
  case agg cs => obtain ⟨l⟩ := cs; exact fL_spec l (fun l => K (.agg ⟨l⟩)) h
  case tuple cs => obtain ⟨l⟩ := cs; exact fL_spec l (fun l => K (.tuple ⟨l⟩)) h
  case iface t v => exact fV0_spec v (fun v => K (.iface t v)) h

theorem allLit0_iff : ∀ (xs : List Value), allLit0 xs = true ↔ ∀ x ∈ xs, isLit0 x = true
  | [] => by simp [allLit0]
  | x :: t => by
    have h : allLit0 (x :: t) = Bool.casesOn (motive := fun _ => Bool) (isLit0 x) false (allLit0 t) := rfl
    rw [h, List.forall_mem_cons, ← allLit0_iff t]
    cases isLit0 x <;> simp
theorem allLit1_iff : ∀ (xs : List Value), allLit1 xs = true ↔ ∀ x ∈ xs, isLit1 x = true
  | [] => by simp [allLit1]
  | x :: t => by
    have h : allLit1 (x :: t) = Bool.casesOn (motive := fun _ => Bool) (isLit1 x) false (allLit1 t) := rfl
    rw [h, List.forall_mem_cons, ← allLit1_iff t]
    cases isLit1 x <;> simp
theorem allOne_iff : ∀ (xs : List Value), allOne xs = true ↔ ∀ x ∈ xs, oneCell x = true
  | [] => by simp [allOne]
  | x :: t => by
    have h : allOne (x :: t) = Bool.casesOn (motive := fun _ => Bool) (oneCell x) false (allOne t) := rfl
    rw [h, List.forall_mem_cons, ← allOne_iff t]
    cases oneCell x <;> simp

/-! Eights. -/
theorem e8_inj : ∀ r s : Fin 8, e8 r.val = e8 s.val → r = s := by decide
theorem e8_mod {i j : Nat} (h : e8 (i % 8) = e8 (j % 8)) : i % 8 = j % 8 := by
  have := e8_inj ⟨i % 8, Nat.mod_lt _ (by decide)⟩ ⟨j % 8, Nat.mod_lt _ (by decide)⟩ h
  exact congrArg Fin.val this
def B8.at {α : Type} : B8 α → E8 → α
  | .mk a0 a1 a2 a3 a4 a5 a6 a7, e => match e with
    | .e0 => a0 | .e1 => a1 | .e2 => a2 | .e3 => a3 | .e4 => a4 | .e5 => a5 | .e6 => a6 | .e7 => a7
def B8.put {α : Type} : B8 α → E8 → α → B8 α
  | .mk a0 a1 a2 a3 a4 a5 a6 a7, e, x => match e with
    | .e0 => .mk x a1 a2 a3 a4 a5 a6 a7 | .e1 => .mk a0 x a2 a3 a4 a5 a6 a7 | .e2 => .mk a0 a1 x a3 a4 a5 a6 a7 | .e3 => .mk a0 a1 a2 x a4 a5 a6 a7
    | .e4 => .mk a0 a1 a2 a3 x a5 a6 a7 | .e5 => .mk a0 a1 a2 a3 a4 x a6 a7 | .e6 => .mk a0 a1 a2 a3 a4 a5 x a7 | .e7 => .mk a0 a1 a2 a3 a4 a5 a6 x
theorem B8.at_put {α : Type} (b : B8 α) (e f : E8) (x : α) : (b.put e x).at f = if f = e then x else b.at f := by
  cases b; cases e <;> cases f <;> rfl
theorem get8_eq (b : B8 Value) (e : E8) (K : Value → Bool) : get8 b e K = K (b.at e) := by cases b; cases e <;> rfl
theorem set8_eq (b : B8 Value) (e : E8) (x : Value) (K : B8 Value → Bool) : set8 b e x K = K (b.put e x) := by cases b; cases e <;> rfl

/-! Temporaries. -/
def TM.at (tm : TM) (i : Nat) : Option Value := (tm.bs[i / 8]?).map fun b => b.at (e8 (i % 8))
theorem tget_spec {tm : TM} {i : Nat} {K : Value → Bool} (h : tget tm i K = true) : ∃ v, tm.at i = some v ∧ K v = true := by
  obtain ⟨n, bs⟩ := tm
  obtain ⟨b, hb, h⟩ := lget_spec bs (i / 8) (fun b => get8 b (e8 (i % 8)) K) h
  rw [get8_eq] at h
  exact ⟨_, by simp [TM.at, hb], h⟩
theorem sets8_spec : ∀ (bs : List (B8 Value)) (i : Nat) (e : E8) (x : Value) (K : List (B8 Value) → Bool), sets8 bs i e x K = true → ∃ b, bs[i]? = some b ∧ K (bs.set i (b.put e x)) = true
  | [], i, e, x, K, h => by cases i <;> exact absurd h (by simp [sets8])
  | b :: t, 0, e, x, K, h => by
    have h : set8 b e x (fun b => K (b :: t)) = true := h
    rw [set8_eq] at h
    exact ⟨b, rfl, h⟩
  | b :: t, i + 1, e, x, K, h => by
    obtain ⟨c, hc, hk⟩ := sets8_spec t i e x (fun t' => K (b :: t')) h
    exact ⟨c, by simpa using hc, by simpa using hk⟩
theorem tset_spec {tm : TM} {i : Nat} {v : Value} {K : TM → Bool} (h : tset tm i v K = true) :
    i < tm.n ∧ ∃ tm', K tm' = true ∧ tm'.n = tm.n ∧ tm'.at i = some v ∧ ∀ j, j ≠ i → tm'.at j = tm.at j := by
  obtain ⟨n, bs⟩ := tm
  have h : (Bool.casesOn (motive := fun _ => Bool) (Nat.ble n i) (sets8 bs (Nat.div i 8) (e8 (Nat.mod i 8)) v fun bs => K ⟨n, bs⟩) false) = true := h
  cases hb : Nat.ble n i with
  | true => rw [hb] at h; exact absurd h (by simp)
  | false =>
    rw [hb] at h
    have hlt : i < n := by
      rcases Nat.lt_or_ge i n with h' | h'
      · exact h'
      · rw [Nat.ble_eq_true_of_le h'] at hb; cases hb
    obtain ⟨b, hb', h⟩ := sets8_spec bs (i / 8) (e8 (i % 8)) v (fun bs => K ⟨n, bs⟩) h
    have hl : i / 8 < bs.length := (List.getElem?_eq_some_iff.1 hb').1
    refine ⟨hlt, _, h, rfl, ?_, fun j hj => ?_⟩
    · simp [TM.at, List.getElem?_set, hl, B8.at_put]
    · simp only [TM.at, List.getElem?_set]
      by_cases hij : i / 8 = j / 8
      · have hm : ¬ e8 (j % 8) = e8 (i % 8) := fun e => by have := e8_mod e; omega
        have hbe : bs[i / 8] = b := by simpa [List.getElem?_eq_getElem hl] using hb'
        rw [← hij]
        simp [hl, hbe, B8.at_put, hm]
      · simp [hij]

theorem take1_eq (vs : List Value) (K : Value → List Value → Bool) : take1 vs K = K (vs.headD undef) vs.tail := by cases vs <;> rfl
def padded (k : Nat) (vs : List Value) : List (B8 Value) :=
  match k with
  | 0 => []
  | k + 1 => .mk (vs.headD undef) ((vs.drop 1).headD undef) ((vs.drop 2).headD undef) ((vs.drop 3).headD undef) ((vs.drop 4).headD undef) ((vs.drop 5).headD undef) ((vs.drop 6).headD undef) ((vs.drop 7).headD undef) :: padded k (vs.drop 8)
theorem pack8_eq : ∀ (k : Nat) (vs : List Value) (K : List (B8 Value) → Bool), pack8 k vs K = K (padded k vs)
  | 0, vs, K => rfl
  | k + 1, vs, K => by
    have e : pack8 (k + 1) vs K = (take1 vs fun a0 r => take1 r fun a1 r => take1 r fun a2 r => take1 r fun a3 r => take1 r fun a4 r => take1 r fun a5 r => take1 r fun a6 r => take1 r fun a7 r =>
      pack8 k r fun bs => K (.mk a0 a1 a2 a3 a4 a5 a6 a7 :: bs)) := rfl
    rw [e]
    simp only [take1_eq, pack8_eq k, padded]
    simp [← List.drop_one, List.drop_drop]
theorem headD_drop (vs : List Value) (i : Nat) : (vs.drop i).headD undef = vs.getD i undef := by
  rw [List.headD_eq_head?_getD, List.head?_drop, List.getD_eq_getElem?_getD]
theorem padded_at : ∀ (k : Nat) (vs : List Value) (i : Nat), ((padded k vs)[i / 8]?).map (fun b => b.at (e8 (i % 8))) = if i < 8 * k then some (vs.getD i undef) else none
  | 0, vs, i => by simp [padded]
  | k + 1, vs, i => by
    by_cases hi : i < 8
    · have h0 : i / 8 = 0 := by omega
      have hm : i % 8 = i := by omega
      rw [h0, hm]
      simp only [padded, List.getElem?_cons_zero, Option.map_some]
      rw [if_pos (by omega)]
      congr 1
      have hc : i = 0 ∨ i = 1 ∨ i = 2 ∨ i = 3 ∨ i = 4 ∨ i = 5 ∨ i = 6 ∨ i = 7 := by omega
      rcases hc with rfl | rfl | rfl | rfl | rfl | rfl | rfl | rfl <;> simp only [e8, B8.at] <;> first | exact headD_drop vs _ | (simpa using headD_drop vs 0)
    · have h0 : i / 8 = (i - 8) / 8 + 1 := by omega
      have hm : i % 8 = (i - 8) % 8 := by omega
      rw [h0, hm]
      simp only [padded, List.getElem?_cons_succ]
      rw [padded_at k (vs.drop 8) (i - 8)]
      have e : (vs.drop 8).getD (i - 8) undef = vs.getD i undef := by
        simp only [List.getD_eq_getElem?_getD, List.getElem?_drop]
        congr 2; omega
      rw [e]
      by_cases h : i < 8 * (k + 1)
      · rw [if_pos h, if_pos (by omega)]
      · rw [if_neg h, if_neg (by omega)]
theorem tnew_spec {n : Nat} {vs : List Value} {K : TM → Bool} (h : tnew n vs K = true) :
    vs.length ≤ n ∧ ∃ tm, K tm = true ∧ tm.n = n ∧ ∀ i v, tm.at i = some v → v = vs.getD i undef := by
  unfold tnew at h
  rw [llen_eq] at h
  cases hb : Nat.ble (0 + vs.length) n with
  | false => simp only [hb] at h; exact absurd h (by simp)
  | true =>
    simp only [hb] at h
    rw [pack8_eq] at h
    refine ⟨by have := Nat.le_of_ble_eq_true hb; omega, _, h, rfl, fun i v hv => ?_⟩
    simp only [TM.at] at hv
    rw [padded_at] at hv
    split at hv
    · exact (Option.some.inj hv).symm
    · cases hv

/-! The tree of blocks. -/
def Tr.sub : Tr → E8 → Tr
  | .nd a0 a1 a2 a3 a4 a5 a6 a7, e => match e with
    | .e0 => a0 | .e1 => a1 | .e2 => a2 | .e3 => a3 | .e4 => a4 | .e5 => a5 | .e6 => a6 | .e7 => a7
  | _, _ => .nil
def Tr.put : Tr → E8 → Tr → Tr
  | .nd a0 a1 a2 a3 a4 a5 a6 a7, e, x => match e with
    | .e0 => .nd x a1 a2 a3 a4 a5 a6 a7 | .e1 => .nd a0 x a2 a3 a4 a5 a6 a7 | .e2 => .nd a0 a1 x a3 a4 a5 a6 a7 | .e3 => .nd a0 a1 a2 x a4 a5 a6 a7
    | .e4 => .nd a0 a1 a2 a3 x a5 a6 a7 | .e5 => .nd a0 a1 a2 a3 a4 x a6 a7 | .e6 => .nd a0 a1 a2 a3 a4 a5 x a7 | .e7 => .nd a0 a1 a2 a3 a4 a5 a6 x
  | _, e, x => match e with
    | .e0 => .nd x .nil .nil .nil .nil .nil .nil .nil | .e1 => .nd .nil x .nil .nil .nil .nil .nil .nil | .e2 => .nd .nil .nil x .nil .nil .nil .nil .nil | .e3 => .nd .nil .nil .nil x .nil .nil .nil .nil
    | .e4 => .nd .nil .nil .nil .nil x .nil .nil .nil | .e5 => .nd .nil .nil .nil .nil .nil x .nil .nil | .e6 => .nd .nil .nil .nil .nil .nil .nil x .nil | .e7 => .nd .nil .nil .nil .nil .nil .nil .nil x
theorem Tr.sub_put (t : Tr) (e f : E8) (x : Tr) : (t.put e x).sub f = if f = e then x else t.sub f := by
  cases t <;> cases e <;> cases f <;> rfl
def Tr.isNd : Tr → Bool
  | .nd _ _ _ _ _ _ _ _ => true
  | _ => false
theorem Tr.put_nd (t : Tr) (e : E8) (x : Tr) : (t.put e x).isNd = true := by cases t <;> cases e <;> rfl
def Tr.set : Nat → Tr → Nat → Option Blk → Tr
  | 0, _, _, v => .tip v
  | d + 1, t, k, v => t.put (e8 (k % 8)) (Tr.set d (t.sub (e8 (k % 8))) (k / 8) v)
theorem ndK_eq (e : E8) (a0 a1 a2 a3 a4 a5 a6 a7 : Tr) (f : Tr → (Tr → Bool) → Bool) (g : Tr → Tr) (hf : ∀ x K, f x K = K (g x)) (K : Tr → Bool) :
    ndK e a0 a1 a2 a3 a4 a5 a6 a7 f K = K ((Tr.nd a0 a1 a2 a3 a4 a5 a6 a7).put e (g ((Tr.nd a0 a1 a2 a3 a4 a5 a6 a7).sub e))) := by
  cases e <;> simp only [ndK, hf] <;> rfl
theorem setK_eq : ∀ (d : Nat) (t : Tr) (k : Nat) (v : Option Blk) (K : Tr → Bool), Tr.setK d t k v K = K (Tr.set d t k v)
  | 0, t, k, v, K => by cases t <;> rfl
  | d + 1, t, k, v, K => by
    have hf : ∀ x K, (fun x K => Tr.setK d x (k / 8) v K) x K = K (Tr.set d x (k / 8) v) := fun x K => setK_eq d x (k / 8) v K
    cases t with
    | nil =>
      have e : Tr.setK (d + 1) .nil k v K = ndK (e8 (k % 8)) .nil .nil .nil .nil .nil .nil .nil .nil (fun x K => Tr.setK d x (k / 8) v K) K := rfl
      rw [e, ndK_eq _ _ _ _ _ _ _ _ _ _ _ hf]; simp only [Tr.set]; cases e8 (k % 8) <;> rfl
    | tip y =>
      have e : Tr.setK (d + 1) (.tip y) k v K = ndK (e8 (k % 8)) .nil .nil .nil .nil .nil .nil .nil .nil (fun x K => Tr.setK d x (k / 8) v K) K := rfl
      rw [e, ndK_eq _ _ _ _ _ _ _ _ _ _ _ hf]; simp only [Tr.set]; cases e8 (k % 8) <;> rfl
    | nd a0 a1 a2 a3 a4 a5 a6 a7 =>
      have e : Tr.setK (d + 1) (.nd a0 a1 a2 a3 a4 a5 a6 a7) k v K = ndK (e8 (k % 8)) a0 a1 a2 a3 a4 a5 a6 a7 (fun x K => Tr.setK d x (k / 8) v K) K := rfl
      rw [e, ndK_eq _ _ _ _ _ _ _ _ _ _ _ hf]; rfl
theorem get_nd {t : Tr} (d k : Nat) (h : t.isNd = true) : Tr.get (d + 1) t k = Tr.get d (t.sub (e8 (k % 8))) (k / 8) := by
  cases t with
  | nil => cases h
  | tip _ => cases h
  | nd a0 a1 a2 a3 a4 a5 a6 a7 =>
    have e : Tr.get (d + 1) (.nd a0 a1 a2 a3 a4 a5 a6 a7) k = Tr.get d (E8.casesOn (motive := fun _ => Tr) (e8 (k % 8)) a0 a1 a2 a3 a4 a5 a6 a7) (k / 8) := rfl
    rw [e]; cases e8 (k % 8) <;> rfl
theorem get_nil (d k : Nat) : Tr.get d .nil k = none := by cases d <;> rfl
theorem get_sub (t : Tr) (d k : Nat) : Tr.get (d + 1) t k = Tr.get d (t.sub (e8 (k % 8))) (k / 8) := by
  cases t with
  | nil => simp [Tr.sub, get_nil]
  | tip x => have e : Tr.get (d + 1) (.tip x) k = none := rfl
             rw [e]; simp [Tr.sub, get_nil]
  | nd _ _ _ _ _ _ _ _ => exact get_nd d k rfl
theorem get_set_same : ∀ (d : Nat) (t : Tr) (k : Nat) (v : Option Blk), Tr.get d (Tr.set d t k v) k = v
  | 0, t, k, v => rfl
  | d + 1, t, k, v => by rw [get_sub, Tr.set, Tr.sub_put, if_pos rfl, get_set_same d]
theorem get_set_ne : ∀ (d : Nat) (t : Tr) (k k' : Nat) (v : Option Blk), k < 8 ^ d → k' < 8 ^ d → k' ≠ k → Tr.get d (Tr.set d t k v) k' = Tr.get d t k'
  | 0, t, k, k', v, h, h', hne => by simp at h h'; omega
  | d + 1, t, k, k', v, h, h', hne => by
    have p : 8 ^ (d + 1) = 8 * 8 ^ d := by rw [Nat.pow_succ, Nat.mul_comm]
    rw [get_sub, Tr.set, Tr.sub_put, get_sub t]
    by_cases he : e8 (k' % 8) = e8 (k % 8)
    · rw [if_pos he, he]
      have hm := e8_mod he
      exact get_set_ne d _ (k / 8) (k' / 8) v (by omega) (by omega) (by omega)
    · rw [if_neg he]

/-! Values that are the same. -/
theorem pureRun_ok {α : Type} {P : Program} : ∀ (s : Sem α) (a : α) (w : World), pureRun P s = some a → s.run P w = .ok a w
  | .pure a, b, w, h => by simp [pureRun] at h; subst h; rfl
  | .program k, b, w, h => by
    have := pureRun_ok (k P) b w (by simpa [pureRun] using h)
    simpa [Sem.run] using this
  | .load .., _, _, h => by simp [pureRun] at h
  | .store .., _, _, h => by simp [pureRun] at h
  | .new .., _, _, h => by simp [pureRun] at h
  | .shape .., _, _, h => by simp [pureRun] at h
  | .freeze .., _, _, h => by simp [pureRun] at h
  | .frozen .., _, _, h => by simp [pureRun] at h
  | .getObj .., _, _, h => by simp [pureRun] at h
  | .setObj .., _, _, h => by simp [pureRun] at h
  | .choose .., _, _, h => by simp [pureRun] at h
  | .sys .., _, _, h => by simp [pureRun] at h
  | .mark .., _, _, h => by simp [pureRun] at h
  | .halt .., _, _, h => by simp [pureRun] at h

theorem pureK_spec {α : Type} {P : Program} {s : Sem α} {K : α → Bool} (h : pureK P s K = true) : ∃ a, pureRun P s = some a ∧ K a = true := by
  unfold pureK at h
  cases hp : pureRun P s with
  | none => rw [hp] at h; exact absurd h (by simp)
  | some a => rw [hp] at h; exact ⟨a, rfl, h⟩

theorem boolK_f0 {b : Bool} {y : Bool} (h : (Bool.casesOn (motive := fun _ => Bool) b false y) = true) : b = true ∧ y = true := by
  cases b
  · exact absurd h (by simp)
  · exact ⟨rfl, h⟩
theorem pureVK_spec {P : Program} {s : Sem Value} {K : Value → Bool} (h : pureVK P s K = true) : ∃ a, (∀ w, s.run P w = .ok a w) ∧ isLit a = true ∧ K a = true := by
  obtain ⟨a, ha, h⟩ := pureK_spec (K := fun r => Bool.casesOn (motive := fun _ => Bool) (isLit r) false (K r)) h
  obtain ⟨hl, h⟩ := boolK_f0 h
  exact ⟨a, fun w => pureRun_ok s a w ha, hl, h⟩

theorem undK_spec {P : Program} {t : TypeId} {K : TypeDesc → Bool} (h : undK P t K = true) : ∃ d, P.underlying t = some d ∧ K d = true := by
  unfold undK at h
  cases hp : P.underlying t with
  | none => rw [hp] at h; exact absurd h (by simp)
  | some a => rw [hp] at h; exact ⟨a, rfl, h⟩
theorem infK_spec {P : Program} {t : TypeId} {K : TypeInfo → Bool} (h : infK P t K = true) : ∃ d, P.info? t = some d ∧ K d = true := by
  unfold infK at h
  cases hp : P.info? t with
  | none => rw [hp] at h; exact absurd h (by simp)
  | some a => rw [hp] at h; exact ⟨a, rfl, h⟩
theorem zeroK_spec {P : Program} {t : TypeId} {K : List Value → Bool} (h : zeroK P t K = true) :
    ∃ i z, P.info? t = some i ∧ i.zero = some z ∧ (∀ x ∈ z.cells.toList, isLit0 x = true) ∧ K z.cells.toList = true := by
  obtain ⟨i, hi, h⟩ := infK_spec h
  cases hz : i.zero with
  | none => rw [hz] at h; exact absurd h (by simp)
  | some z =>
    rw [hz] at h
    cases hl : allLit0 z.cells.toList with
    | false => simp only [hl] at h; exact absurd h (by simp)
    | true => simp only [hl] at h; exact ⟨i, z, hi, hz, (allLit0_iff _).1 hl, h⟩
theorem natK_spec {v : Value} {K : Nat → Bool} (h : natK v K = true) : ∃ k n, v = .int k (Int.ofNat n) ∧ K n = true := by
  unfold natK at h
  split at h
  · exact ⟨_, _, rfl, h⟩
  · exact absurd h (by simp)
theorem cellsK_spec {t : Tr} {b : Nat} {K : List Value → TypeId → Bool → Bool} (h : cellsK t b K = true) : ∃ xs e g, Tr.get D t b = some (.cells xs e g) ∧ K xs e g = true := by
  unfold cellsK at h
  split at h
  · rename_i hg; exact ⟨_, _, _, hg, h⟩
  · exact absurd h (by simp)
theorem readK_spec {t : Tr} {b : Nat} {K : List Value → Bool} (h : readK t b K = true) : ∃ xs, ((∃ e g, Tr.get D t b = some (.cells xs e g)) ∨ Tr.get D t b = some (.ro xs)) ∧ K xs = true := by
  unfold readK at h
  split at h
  · rename_i hg; exact ⟨_, .inl ⟨_, _, hg⟩, h⟩
  · rename_i hg; exact ⟨_, .inr hg, h⟩
  · exact absurd h (by simp)
theorem boolK_true {b : Bool} {x y : Bool} (h : (Bool.casesOn (motive := fun _ => Bool) b x y) = true) : (b = true ∧ y = true) ∨ (b = false ∧ x = true) := by
  cases b
  · exact .inr ⟨rfl, h⟩
  · exact .inl ⟨rfl, h⟩
theorem boolK_f {b : Bool} {y : Bool} (h : (Bool.casesOn (motive := fun _ => Bool) b false y) = true) : b = true ∧ y = true := by
  cases b
  · exact absurd h (by simp)
  · exact ⟨rfl, h⟩
theorem boolK_t {b : Bool} {x : Bool} (h : (Bool.casesOn (motive := fun _ => Bool) b x false) = true) : b = false ∧ x = true := by
  cases b
  · exact ⟨rfl, h⟩
  · exact absurd h (by simp)
theorem optK {α : Type} {o : Option α} {K : α → Bool} (h : (Option.casesOn (motive := fun _ => Bool) o false K) = true) : ∃ a, o = some a ∧ K a = true := by
  cases o with
  | none => exact absurd h (by simp)
  | some a => exact ⟨a, rfl, h⟩
theorem natcK {n : Nat} {K : Nat → Bool} (h : (Nat.casesOn (motive := fun _ => Bool) n false K) = true) : ∃ m, n = m + 1 ∧ K m = true := by
  cases n with
  | zero => exact absurd h (by simp)
  | succ m => exact ⟨m, rfl, h⟩
theorem evK_spec {tmps : TM} {x : Operand} {K : Value → Bool} (h : evK tmps x K = true) :
    ∃ v, K v = true ∧ ((∃ t, x = .tmp t ∧ tmps.at t = some v) ∨ (x = .const v ∧ isLit v = true) ∨ (∃ f, x = .func f ∧ v = .func (.func f) #[] #[]) ∨ (∃ g, x = .global g ∧ g < NG ∧ v = .pointer (some ⟨g, 0, none⟩))) := by
  unfold evK at h
  split at h
  · obtain ⟨v, hv, hk⟩ := tget_spec h
    exact ⟨v, hk, .inl ⟨_, rfl, hv⟩⟩
  · obtain ⟨hl, hk⟩ := boolK_f h
    exact ⟨_, hk, .inr (.inl ⟨rfl, hl⟩)⟩
  · exact ⟨_, h, .inr (.inr (.inl ⟨_, rfl, rfl⟩))⟩
  · obtain ⟨hl, hk⟩ := boolK_t h
    refine ⟨_, hk, .inr (.inr (.inr ⟨_, rfl, ?_, rfl⟩))⟩
    rcases Nat.lt_or_ge ‹Nat› NG with hlt | hge
    · exact hlt
    · rw [Nat.ble_eq_true_of_le hge] at hl; cases hl
end Go.Abs

/-! ## What an abstract state stands for: values up to a renaming of blocks; blocks; worlds. -/
namespace Go.Abs
open Go
open Go.RowKit (Below)
set_option linter.unusedVariables false
set_option linter.unusedSimpArgs false

abbrev Ren := Nat → Option (Nat × Nat)

mutual
inductive VR (ρ : Ren) : Value → Value → Prop
  | lit (v : Value) (h : isLit0 v = true) : VR ρ v v
  | ptr (b o c k : Nat) (h : ρ b = some (c, k)) : VR ρ (.pointer (some ⟨b, o, none⟩)) (.pointer (some ⟨c, o, none⟩))
  | slice (b o c k n m : Nat) (h : ρ b = some (c, k)) (hm : m < capU) : VR ρ (.slice (some ⟨b, o, none⟩) n m) (.slice (some ⟨c, o, none⟩) n m)
  | sliceU (b o c k n m : Nat) (h : ρ b = some (c, k)) (hn : n ≤ m) (hm : m ≤ maxLen) (h0 : o = 0 → m = k) : VR ρ (.slice (some ⟨b, o, none⟩) n capU) (.slice (some ⟨c, o, none⟩) n m)
  | sliceE (b o c o' m : Nat) (hm : m ≤ maxLen) : VR ρ (.slice (some ⟨b, o, none⟩) 0 capE) (.slice (some ⟨c, o', none⟩) 0 m)
  | map (b c k : Nat) (h : ρ b = some (c, k)) : VR ρ (.map (some b)) (.map (some c))
  | func (f : FuncId) (a b a' b' : List Value) (ha : VRs ρ a a') (hb : VRs ρ b b') : VR ρ (.func (.func f) ⟨a⟩ ⟨b⟩) (.func (.func f) ⟨a'⟩ ⟨b'⟩)
  | yield (l c k : Nat) (h : ρ l = some (c, k)) : VR ρ (.func (.yield l) #[] #[]) (.func (.yield c) #[] #[])
  | iface (t : TypeId) (v v' : Value) (h : VR ρ v v') : VR ρ (.iface t v) (.iface t v')
  | agg (xs ys : List Value) (h : VRs ρ xs ys) : VR ρ (.agg ⟨xs⟩) (.agg ⟨ys⟩)
  | tuple (xs ys : List Value) (h : VRs ρ xs ys) : VR ρ (.tuple ⟨xs⟩) (.tuple ⟨ys⟩)
inductive VRs (ρ : Ren) : List Value → List Value → Prop
  | nil : VRs ρ [] []
  | cons (x y : Value) (xs ys : List Value) (h : VR ρ x y) (t : VRs ρ xs ys) : VRs ρ (x :: xs) (y :: ys)
end

variable {ρ ρ' : Ren}

/-! Rows of values. -/
theorem VRs.length : ∀ {xs ys : List Value}, VRs ρ xs ys → xs.length = ys.length
  | _, _, .nil => rfl
  | _, _, .cons x y xs ys h t => by simp [VRs.length t]
theorem VRs.get : ∀ {xs ys : List Value}, VRs ρ xs ys → ∀ {i : Nat} {x : Value}, xs[i]? = some x → ∃ y, ys[i]? = some y ∧ VR ρ x y
  | _, _, .nil, i, x, h => by simp at h
  | _, _, .cons x y xs ys h t, 0, u, hu => by simp at hu; subst hu; exact ⟨y, rfl, h⟩
  | _, _, .cons x y xs ys h t, i + 1, u, hu => by simpa using VRs.get t (by simpa using hu)
theorem VRs.of_get : ∀ {xs ys : List Value}, xs.length = ys.length → (∀ (i : Nat) (x : Value), xs[i]? = some x → ∃ y, ys[i]? = some y ∧ VR ρ x y) → VRs ρ xs ys
  | [], [], _, _ => .nil
  | [], _ :: _, h, _ => by simp at h
  | _ :: _, [], h, _ => by simp at h
  | x :: xs, y :: ys, h, hg => by
    obtain ⟨y', hy, hr⟩ := hg 0 x rfl
    simp at hy; subst hy
    exact .cons _ _ _ _ hr (VRs.of_get (by simpa using h) fun i x hx => by simpa using hg (i + 1) x (by simpa using hx))
theorem VRs.drop : ∀ {xs ys : List Value} (n : Nat), VRs ρ xs ys → VRs ρ (xs.drop n) (ys.drop n)
  | _, _, 0, h => h
  | _, _, n + 1, .nil => .nil
  | _, _, n + 1, .cons _ _ _ _ _ t => VRs.drop n t
theorem VRs.take : ∀ {xs ys : List Value} (n : Nat), VRs ρ xs ys → VRs ρ (xs.take n) (ys.take n)
  | _, _, 0, h => .nil
  | _, _, n + 1, .nil => .nil
  | _, _, n + 1, .cons _ _ _ _ h t => .cons _ _ _ _ h (VRs.take n t)
theorem VRs.append : ∀ {xs ys us vs : List Value}, VRs ρ xs ys → VRs ρ us vs → VRs ρ (xs ++ us) (ys ++ vs)
  | _, _, _, _, .nil, h => h
  | _, _, _, _, .cons _ _ _ _ h t, k => .cons _ _ _ _ h (VRs.append t k)
theorem VRs.set : ∀ {xs ys : List Value} (i : Nat) {x y : Value}, VRs ρ xs ys → VR ρ x y → VRs ρ (xs.set i x) (ys.set i y)
  | _, _, _, _, _, .nil, _ => .nil
  | _, _, 0, _, _, .cons _ _ _ _ _ t, h => .cons _ _ _ _ h t
  | _, _, i + 1, _, _, .cons _ _ _ _ h t, k => .cons _ _ _ _ h (VRs.set i t k)
theorem VRs.mem {xs ys : List Value} (h : VRs ρ xs ys) {y : Value} (hy : y ∈ ys) : ∃ x ∈ xs, VR ρ x y := by
  induction ys generalizing xs with
  | nil => simp at hy
  | cons z zs ih =>
    cases h with
    | cons x _ xs _ hr ht =>
      rcases List.mem_cons.1 hy with rfl | hm
      · exact ⟨x, List.mem_cons_self, hr⟩
      · obtain ⟨u, hu, hur⟩ := ih ht hm
        exact ⟨u, List.mem_cons_of_mem _ hu, hur⟩
theorem VRs.lits : ∀ (xs : List Value), (∀ x ∈ xs, isLit0 x = true) → VRs ρ xs xs
  | [], _ => .nil
  | x :: t, h => .cons _ _ _ _ (.lit x (h x List.mem_cons_self)) (VRs.lits t fun y hy => h y (List.mem_cons_of_mem _ hy))
theorem VRs.lits1 : ∀ (xs : List Value), (∀ x ∈ xs, isLit1 x = true) → VRs ρ xs xs
  | [], _ => .nil
  | x :: t, h => .cons _ _ _ _ (by
      have hx := h x List.mem_cons_self
      cases x <;> first
        | exact .lit _ hx
        | (rename_i cs; obtain ⟨l⟩ := cs; exact .agg l l (VRs.lits l ((allLit0_iff l).1 hx)))) (VRs.lits1 t fun y hy => h y (List.mem_cons_of_mem _ hy))
theorem VR.lit1 (v : Value) (h : isLit1 v = true) : VR ρ v v := by
  have := VRs.lits1 (ρ := ρ) [v] (by simpa using h)
  cases this with | cons _ _ _ _ hr _ => exact hr
theorem VR.lits (v : Value) (h : isLit v = true) : VR ρ v v := by
  cases v <;> first
    | exact VR.lit1 _ h
    | (rename_i t u; exact .iface t u u (VR.lit1 u h))
    | (rename_i cs; obtain ⟨l⟩ := cs; exact .tuple l l (VRs.lits1 l ((allLit1_iff l).1 h)))

theorem VR.lit0_eq {v w : Value} (hl : isLit0 v = true) (h : VR ρ v w) : w = v := by
  cases h <;> try rfl
  all_goals first
    | (simp [isLit0] at hl; done)
    | skip
  case func f a b a' b' ha hb =>
    simp only [isLit0, Bool.and_eq_true, List.isEmpty_iff] at hl
    obtain ⟨h1, h2⟩ := hl
    subst h1; subst h2
    cases ha; cases hb; rfl
theorem VRs.lit0_eq : ∀ {xs ys : List Value}, VRs ρ xs ys → (∀ x ∈ xs, isLit0 x = true) → ys = xs
  | _, _, .nil, _ => rfl
  | _, _, .cons x y xs ys h t, hl => by
    rw [VR.lit0_eq (hl x List.mem_cons_self) h, VRs.lit0_eq t (fun z hz => hl z (List.mem_cons_of_mem _ hz))]
theorem VR.lit1_eq {v w : Value} (hl : isLit1 v = true) (h : VR ρ v w) : w = v := by
  cases h <;> try rfl
  case agg xs ys hx => rw [VRs.lit0_eq hx ((allLit0_iff xs).1 hl)]
  all_goals first
    | (simp [isLit1, isLit0] at hl; done)
    | skip
  case func f a b a' b' ha hb => exact VR.lit0_eq hl (.func f a b a' b' ha hb)
theorem VRs.lit1_eq : ∀ {xs ys : List Value}, VRs ρ xs ys → (∀ x ∈ xs, isLit1 x = true) → ys = xs
  | _, _, .nil, _ => rfl
  | _, _, .cons x y xs ys h t, hl => by
    rw [VR.lit1_eq (hl x List.mem_cons_self) h, VRs.lit1_eq t (fun z hz => hl z (List.mem_cons_of_mem _ hz))]
theorem VR.lit_eq {v w : Value} (hl : isLit v = true) (h : VR ρ v w) : w = v := by
  cases h <;> try rfl
  case agg xs ys hx => exact VR.lit1_eq hl (.agg xs ys hx)
  case tuple xs ys hx => rw [VRs.lit1_eq hx ((allLit1_iff xs).1 hl)]
  case iface t u u' hu => rw [VR.lit1_eq hl hu]
  all_goals first
    | (simp [isLit, isLit1, isLit0] at hl; done)
    | skip
  case func f a b a' b' ha hb => exact VR.lit0_eq hl (.func f a b a' b' ha hb)

/-! Inversions. -/
theorem VR.ptr_inv {a : Addr} {w : Value} (h : VR ρ (.pointer (some a)) w) : ∃ b o c k, a = ⟨b, o, none⟩ ∧ ρ b = some (c, k) ∧ w = .pointer (some ⟨c, o, none⟩) := by
  cases h with
  | lit _ h => simp [isLit0] at h
  | ptr b o c k h => exact ⟨b, o, c, k, rfl, h, rfl⟩
theorem VR.bool_inv {b : Bool} {w : Value} (h : VR ρ (.bool b) w) : w = .bool b := VR.lit0_eq rfl h
theorem VR.int_inv {k : IntKind} {n : Int} {w : Value} (h : VR ρ (.int k n) w) : w = .int k n := VR.lit0_eq rfl h
theorem VR.string_inv {s : ByteArray} {w : Value} (h : VR ρ (.string s) w) : w = .string s := VR.lit0_eq rfl h
theorem VR.agg_inv {cs : Array Value} {w : Value} (h : VR ρ (.agg cs) w) : ∃ ys, w = .agg ⟨ys⟩ ∧ VRs ρ cs.toList ys := by
  cases h with
  | lit _ h => simp [isLit0] at h
  | agg xs ys h => exact ⟨ys, rfl, h⟩
theorem VR.tuple_inv {cs : Array Value} {w : Value} (h : VR ρ (.tuple cs) w) : ∃ ys, w = .tuple ⟨ys⟩ ∧ VRs ρ cs.toList ys := by
  cases h with
  | lit _ h => simp [isLit0] at h
  | tuple xs ys h => exact ⟨ys, rfl, h⟩
theorem VR.iface_inv {t : TypeId} {v w : Value} (h : VR ρ (.iface t v) w) : ∃ v', w = .iface t v' ∧ VR ρ v v' := by
  cases h with
  | lit _ h => simp [isLit0] at h
  | iface t u u' h => exact ⟨u', rfl, h⟩
theorem VR.func_inv {f : FuncId} {a b : Array Value} {w : Value} (h : VR ρ (.func (.func f) a b) w) : ∃ a' b', w = .func (.func f) ⟨a'⟩ ⟨b'⟩ ∧ VRs ρ a.toList a' ∧ VRs ρ b.toList b' := by
  cases h with
  | lit _ h =>
    obtain ⟨a⟩ := a; obtain ⟨b⟩ := b
    simp only [isLit0, Bool.and_eq_true, List.isEmpty_iff] at h
    obtain ⟨h1, h2⟩ := h; subst h1; subst h2
    exact ⟨[], [], rfl, .nil, .nil⟩
  | func f a b a' b' ha hb => exact ⟨a', b', rfl, ha, hb⟩
theorem VR.yield_inv {l : Nat} {a b : Array Value} {w : Value} (h : VR ρ (.func (.yield l) a b) w) : ∃ c k, w = .func (.yield c) #[] #[] ∧ ρ l = some (c, k) := by
  cases h with
  | lit _ h => simp [isLit0] at h
  | yield l c k h => exact ⟨c, k, rfl, h⟩
theorem VR.map_inv {b : Nat} {w : Value} (h : VR ρ (.map (some b)) w) : ∃ c k, w = .map (some c) ∧ ρ b = some (c, k) := by
  cases h with
  | lit _ h => simp [isLit0] at h
  | map b c k h => exact ⟨c, k, rfl, h⟩
theorem VR.slice_none_inv {n c : Nat} {w : Value} (h : VR ρ (.slice none n c) w) : w = .slice none 0 0 ∧ n = 0 ∧ c = 0 := by
  cases h with
  | lit _ h =>
    simp [isLit0] at h
    obtain ⟨rfl, rfl⟩ := h
    exact ⟨rfl, rfl, rfl⟩
theorem VR.slice_inv {a : Addr} {n m : Nat} {w : Value} (h : VR ρ (.slice (some a) n m) w) : ∃ b o, a = ⟨b, o, none⟩ ∧
    ((∃ c k, ρ b = some (c, k) ∧ m < capU ∧ w = .slice (some ⟨c, o, none⟩) n m) ∨
     (∃ c k q, ρ b = some (c, k) ∧ m = capU ∧ n ≤ q ∧ q ≤ maxLen ∧ (o = 0 → q = k) ∧ w = .slice (some ⟨c, o, none⟩) n q) ∨
     (∃ c o' q, m = capE ∧ n = 0 ∧ q ≤ maxLen ∧ w = .slice (some ⟨c, o', none⟩) 0 q)) := by
  cases h with
  | lit _ h => simp [isLit0] at h
  | slice b o c k n m h hm => exact ⟨b, o, rfl, .inl ⟨c, k, h, hm, rfl⟩⟩
  | sliceU b o c k n m h hn hm h0 => exact ⟨b, o, rfl, .inr (.inl ⟨c, k, m, h, rfl, hn, hm, h0, rfl⟩)⟩
  | sliceE b o c o' m hm => exact ⟨b, o, rfl, .inr (.inr ⟨c, o', m, rfl, rfl, hm, rfl⟩)⟩
theorem VR.cells {v w : Value} (h : VR ρ v w) : VRs ρ v.cells.toList w.cells.toList := by
  cases h with
  | agg xs ys h => exact h
  | lit v h => cases v <;> first | (simp [isLit0] at h; done) | exact .cons _ _ _ _ (.lit _ h) .nil
  | ptr b o c k h => exact .cons _ _ _ _ (.ptr b o c k h) .nil
  | slice b o c k n m h hm => exact .cons _ _ _ _ (.slice b o c k n m h hm) .nil
  | sliceU b o c k n m h hn hm h0 => exact .cons _ _ _ _ (.sliceU b o c k n m h hn hm h0) .nil
  | sliceE b o c o' m hm => exact .cons _ _ _ _ (.sliceE b o c o' m hm) .nil
  | map b c k h => exact .cons _ _ _ _ (.map b c k h) .nil
  | func f a b a' b' ha hb => exact .cons _ _ _ _ (.func f a b a' b' ha hb) .nil
  | yield l c k h => exact .cons _ _ _ _ (.yield l c k h) .nil
  | iface t v v' h => exact .cons _ _ _ _ (.iface t v v' h) .nil
  | tuple xs ys h => exact .cons _ _ _ _ (.tuple xs ys h) .nil
theorem VR.oneCell {v w : Value} (h : VR ρ v w) : Abs.oneCell w = Abs.oneCell v := by cases h <;> rfl
theorem VR.notAgg {v w : Value} (h : VR ρ v w) (hv : Abs.oneCell v = true) : w.oneCell' = true := by
  have := h.oneCell.trans hv
  cases w <;> first | rfl | (simp [Abs.oneCell] at this)

/-- A greater renaming. -/
def Ren.le (ρ ρ' : Ren) : Prop := ∀ b x, ρ b = some x → ρ' b = some x
theorem Ren.le.refl (ρ : Ren) : Ren.le ρ ρ := fun _ _ h => h
theorem Ren.le.trans {a b c : Ren} (h : Ren.le a b) (k : Ren.le b c) : Ren.le a c := fun x y e => k x y (h x y e)
mutual
theorem VR.mono (h : Ren.le ρ ρ') : ∀ {v w : Value}, VR ρ v w → VR ρ' v w
  | _, _, .lit v hl => .lit v hl
  | _, _, .ptr b o c k e => .ptr b o c k (h _ _ e)
  | _, _, .slice b o c k n m e hm => .slice b o c k n m (h _ _ e) hm
  | _, _, .sliceU b o c k n m e hn hm h0 => .sliceU b o c k n m (h _ _ e) hn hm h0
  | _, _, .sliceE b o c o' m hm => .sliceE b o c o' m hm
  | _, _, .map b c k e => .map b c k (h _ _ e)
  | _, _, .func f a b a' b' ha hb => .func f a b a' b' (VRs.mono h ha) (VRs.mono h hb)
  | _, _, .yield l c k e => .yield l c k (h _ _ e)
  | _, _, .iface t v v' e => .iface t v v' (VR.mono h e)
  | _, _, .agg xs ys e => .agg xs ys (VRs.mono h e)
  | _, _, .tuple xs ys e => .tuple xs ys (VRs.mono h e)
theorem VRs.mono (h : Ren.le ρ ρ') : ∀ {xs ys : List Value}, VRs ρ xs ys → VRs ρ' xs ys
  | _, _, .nil => .nil
  | _, _, .cons x y xs ys e t => .cons x y xs ys (VR.mono h e) (VRs.mono h t)
end

/-! Blocks and worlds. -/
/-- A row that a string may share is marked behind its end alone. -/
def okMark (fr : Nat × Nat) (n : Nat) : Prop := fr = (0, 0) ∨ fr = (n, n + 1)

/-- Temporaries stand for the machine's, but for those that are still to come. -/
def TR (ρ : Ren) (pend : Nat → Prop) (tm : TM) (a : Array Value) : Prop :=
  a.size = tm.n ∧ ∀ i v, tm.at i = some v → (i < tm.n → pend i ∨ ∃ v', a[i]? = some v' ∧ VR ρ v v') ∧ (tm.n ≤ i → v = undef)
def noPend : Nat → Prop := fun _ => False
theorem TR.mono {pend : Nat → Prop} {tm : TM} {a : Array Value} (h : Ren.le ρ ρ') (e : TR ρ pend tm a) : TR ρ' pend tm a :=
  ⟨e.1, fun i v hv => ⟨fun hi => ((e.2 i v hv).1 hi).imp id fun ⟨v', h1, h2⟩ => ⟨v', h1, h2.mono h⟩, (e.2 i v hv).2⟩⟩
theorem undef_VR (ρ : Ren) : VR ρ undef undef := .tuple [] [] .nil

inductive ERs (ρ : Ren) : List MapEntry → List MapEntry → Prop
  | nil : ERs ρ [] []
  | cons (k : Value) (v v' : Value) (n : Nat) (es fs : List MapEntry) (hk : isLit0 k = true) (h : VR ρ v v') (t : ERs ρ es fs) : ERs ρ (⟨k, v, n⟩ :: es) (⟨k, v', n⟩ :: fs)

def BR (P : Program) (ρ : Ren) (k : Nat) : Blk → Obj → Prop
  | .cells xs e g, .cells arr e' fr => e' = e ∧ okMark fr arr.size ∧ (∃ ys rest, arr.toList = ys ++ rest ∧ VRs ρ xs ys ∧ (g = false → rest = [])) ∧ (g = true → arr.size = k * P.cellsOf e)
  | .map es clock, .map fs clock' => clock' = clock ∧ ERs ρ es fs.toList
  | .mapIter m since seen last, .mapIter m' since' seen' last' => since' = since ∧ seen' = ⟨seen⟩ ∧ last' = last ∧ ∃ c q, ρ m = some (c, q) ∧ m' = some c
  | .strIter s pos, .stringIter s' pos' => s' = s ∧ pos' = pos
  | .loop l, .loop l' => l'.state = l.state ∧ l'.pending = l.pending ∧ l'.fn = l.fn ∧ TR ρ noPend l.tmps l'.tmps ∧ l'.params = l.params ∧ l'.assign = l.assign ∧ l'.body = l.body ∧ ∃ q, ρ l.defers = some (l'.defers, q)
  | .dfd taken, .deferred ds => ds = if taken then none else some []
  | .ro xs, .cells arr _ _ => arr.toList = xs ∧ ∀ x ∈ xs, isLit0 x = true
  | _, _ => False

def isRo : Blk → Bool
  | .ro _ => true
  | _ => false

structure Rep (P : Program) (B : Nat) (ρ : Ren) (t : Tr) (nx : Nat) (w : World) : Prop where
  blk : ∀ b x c k, Tr.get D t b = some x → ρ b = some (c, k) → ∃ o, w.heap[c]? = some o ∧ BR P ρ k x o
  inj : ∀ b b' x x' c k k', Tr.get D t b = some x → Tr.get D t b' = some x' → isRo x = false → isRo x' = false → ρ b = some (c, k) → ρ b' = some (c, k') → b = b'
  low : ∀ b x c k, Tr.get D t b = some x → isRo x = false → ρ b = some (c, k) → B ≤ c
  ro : ∀ b x c k, Tr.get D t b = some x → isRo x = true → ρ b = some (c, k) → c < B
  glob : ∀ g, g < NG → ρ g = some (g, 0)
  new : ∀ b, nx ≤ b → ρ b = none
  ng : NG ≤ nx
  nxl : nx ≤ 4096
  base : B ≤ w.heap.size

theorem ERs.mono (h : Ren.le ρ ρ') : ∀ {es fs : List MapEntry}, ERs ρ es fs → ERs ρ' es fs
  | _, _, .nil => .nil
  | _, _, .cons k v v' n es fs hk e t => .cons k v v' n es fs hk (e.mono h) (t.mono h)
theorem BR.mono {P : Program} (h : Ren.le ρ ρ') {k : Nat} {x : Blk} {o : Obj} (e : BR P ρ k x o) : BR P ρ' k x o := by
  cases x <;> cases o <;> first | exact e.elim | skip
  · obtain ⟨h1, h2, ⟨ys, rest, h3, h4, h5⟩, h6⟩ := e; exact ⟨h1, h2, ⟨ys, rest, h3, h4.mono h, h5⟩, h6⟩
  · exact ⟨e.1, e.2.mono h⟩
  · obtain ⟨h1, h2, h3, c, q, h4, h5⟩ := e; exact ⟨h1, h2, h3, c, q, h _ _ h4, h5⟩
  · exact e
  · obtain ⟨h1, h2, h3, h4, h5, h6, h7, q, h8⟩ := e; exact ⟨h1, h2, h3, h4.mono h, h5, h6, h7, q, h _ _ h8⟩
  · exact e
  · exact e

/-- What an operand stands for. -/
def Ev (tmps : TM) (x : Operand) (v : Value) : Prop :=
  (∃ t, x = .tmp t ∧ tmps.at t = some v) ∨ (x = .const v ∧ isLit v = true) ∨ (∃ f, x = .func f ∧ v = .func (.func f) #[] #[]) ∨ (∃ g, x = .global g ∧ g < NG ∧ v = .pointer (some ⟨g, 0, none⟩))
theorem evK_ev {tmps : TM} {x : Operand} {K : Value → Bool} (h : evK tmps x K = true) : ∃ v, K v = true ∧ Ev tmps x v := evK_spec h
theorem evsK_ev {tmps : TM} : ∀ {xs : List Operand} {K : List Value → Bool}, evsK tmps xs K = true → ∃ vs, K vs = true ∧ vs.length = xs.length ∧ ∀ (i : Nat) (x : Operand) (v : Value), xs[i]? = some x → vs[i]? = some v → Ev tmps x v
  | [], K, h => ⟨[], h, rfl, by simp⟩
  | x :: xs, K, h => by
    obtain ⟨v, h, hv⟩ := evK_ev (K := fun v => evsK tmps xs fun vs => K (v :: vs)) h
    obtain ⟨vs, h, hl, hvs⟩ := evsK_ev h
    refine ⟨v :: vs, h, by simp [hl], fun i y u hy hu => ?_⟩
    cases i with
    | zero => simp at hy hu; subst hy; subst hu; exact hv
    | succ i => exact hvs i y u (by simpa using hy) (by simpa using hu)

/-- Operands of temporaries that stand, stand. -/
theorem TR.ev {ρ : Ren} {pend : Nat → Prop} {tm : TM} {a : Act} (h : TR ρ pend tm a.tmps) (hg : ∀ g, g < NG → ρ g = some (g, 0)) {x : Operand} {v : Value} (hv : Ev tm x v)
    (hp : ∀ i, x = .tmp i → ¬ pend i) : VR ρ v (a.eval x) := by
  rcases hv with ⟨i, rfl, hi⟩ | ⟨rfl, hl⟩ | ⟨f, rfl, rfl⟩ | ⟨g, rfl, hlt, rfl⟩
  · show VR ρ v (a.tmps.getD i undef)
    obtain ⟨h1, h2⟩ := h.2 i v hi
    rcases Nat.lt_or_ge i tm.n with hlt | hge
    · rcases h1 hlt with hpe | ⟨v', hv', hr⟩
      · exact absurd hpe (hp i rfl)
      · rw [Array.getD_eq_getD_getElem?, hv']; exact hr
    · rw [h2 hge, Array.getD_eq_getD_getElem?, Array.getElem?_eq_none (by have := h.1; omega)]
      exact undef_VR ρ
  · exact VR.lits v hl
  · exact .func f [] [] [] [] .nil .nil
  · exact .ptr g 0 g 0 (hg g hlt)

/-- Operands of the machine's that stand for the abstract ones. -/
def OpsR (ρ : Ren) (tmps : TM) (a : Act) (xs : Array Operand) : Prop := ∀ x v, x ∈ xs → Ev tmps x v → VR ρ v (a.eval x)
end Go.Abs

/-! ## Operations that only read: what the abstract machine answers, the model answers, up to the renaming; the world stays. -/
namespace Go.Abs
open Go
set_option linter.unusedVariables false
set_option linter.unusedSimpArgs false

theorem Rep.cells {P : Program} {B : Nat} {ρ : Ren} {t : Tr} {nx : Nat} {w : World} (R : Rep P B ρ t nx w) {b c k : Nat} {xs : List Value} {e : TypeId} {g : Bool}
    (hg : Tr.get D t b = some (.cells xs e g)) (hr : ρ b = some (c, k)) :
    ∃ arr fr ys rest, w.heap[c]? = some (.cells arr e fr) ∧ okMark fr arr.size ∧ arr.toList = ys ++ rest ∧ VRs ρ xs ys ∧ (g = false → rest = []) ∧ (g = true → arr.size = k * P.cellsOf e) := by
  obtain ⟨o, ho, hb⟩ := R.blk b _ c k hg hr
  cases o <;> first | exact hb.elim | skip
  rename_i arr e' fr
  obtain ⟨rfl, h2, ⟨ys, rest, h3, h4, h5⟩, h6⟩ := hb
  exact ⟨arr, fr, ys, rest, ho, h2, h3, h4, h5, h6⟩

theorem Rep.read {P : Program} {B : Nat} {ρ : Ren} {t : Tr} {nx : Nat} {w : World} (R : Rep P B ρ t nx w) {b c k : Nat} {xs : List Value}
    (hg : (∃ e g, Tr.get D t b = some (.cells xs e g)) ∨ Tr.get D t b = some (.ro xs)) (hr : ρ b = some (c, k)) :
    ∃ arr e fr ys rest, w.heap[c]? = some (.cells arr e fr) ∧ arr.toList = ys ++ rest ∧ VRs ρ xs ys := by
  rcases hg with ⟨e, g, hg⟩ | hg
  · obtain ⟨arr, fr, ys, rest, h1, h2, h3, h4, _⟩ := R.cells hg hr
    exact ⟨arr, e, fr, ys, rest, h1, h3, h4⟩
  · obtain ⟨o, ho, hb⟩ := R.blk b _ c k hg hr
    cases o <;> first | exact hb.elim | skip
    rename_i arr e' fr
    exact ⟨arr, e', fr, arr.toList, [], ho, by simp, by rw [hb.1]; exact VRs.lits _ hb.2⟩

theorem cell_at {w : World} {c : Nat} {arr : Array Value} {e : TypeId} {fr : Nat × Nat} {ys rest : List Value} (hc : w.heap[c]? = some (.cells arr e fr)) (ha : arr.toList = ys ++ rest)
    {i : Nat} {y : Value} (hy : ys[i]? = some y) : w.cell? ⟨c, i, none⟩ = some y := by
  rw [cell_of_row w c i arr e fr hc]
  have hi : i < ys.length := (List.getElem?_eq_some_iff.1 hy).1
  have : arr.toList[i]? = some y := by rw [ha, List.getElem?_append_left hi]; exact hy
  simpa using this

theorem run_loadCells_at {P : Program} {w : World} {c off n : Nat} {arr : Array Value} {e : TypeId} {fr : Nat × Nat} {ys rest : List Value} (hc : w.heap[c]? = some (.cells arr e fr)) (ha : arr.toList = ys ++ rest)
    (hn : n ≤ (ys.drop off).length) : (loadCells ⟨c, off, none⟩ n).run P w = .ok ((ys.drop off).take n).toArray w := by
  have hl : ((ys.drop off).take n).length = n := by rw [List.length_take]; omega
  have h := run_loadCells_list (P := P) w ⟨c, off, none⟩ ((ys.drop off).take n) (fun j v hj => by
    rw [Addr.add_lit]
    rw [List.getElem?_take] at hj
    split at hj
    · rw [List.getElem?_drop] at hj; exact cell_at hc ha hj
    · cases hj)
  rw [hl] at h
  exact h

theorem load_sound {P : Program} {t : Tr} {ty : TypeId} {b off : Nat} {K : Value → Bool} (h : loadK P t ty b off K = true) :
    ∃ v, K v = true ∧ ∀ B ρ nx w c k, Rep P B ρ t nx w → ρ b = some (c, k) → ∃ v', (loadVar ty ⟨c, off, none⟩).run P w = .ok v' w ∧ VR ρ v v' := by
  unfold loadK at h
  obtain ⟨xs, hg, h⟩ := readK_spec h
  obtain ⟨d, hd, h⟩ := undK_spec h
  have agg : ∀ {K : Value → Bool}, (infK P ty fun i => ldrop xs off fun ys => ltake i.size ys fun zs => K (.agg ⟨zs⟩)) = true → (isAgg ty).run P = (fun w => .ok true w) →
      ∃ v, K v = true ∧ ∀ B ρ nx w c k, Rep P B ρ t nx w → ρ b = some (c, k) → ∃ v', (loadVar ty ⟨c, off, none⟩).run P w = .ok v' w ∧ VR ρ v v' := by
    intro K h hagg
    obtain ⟨i, hi, h⟩ := infK_spec h
    obtain ⟨h1, h⟩ := ldrop_spec _ _ _ h
    obtain ⟨h2, h⟩ := ltake_spec _ _ _ h
    refine ⟨_, h, fun B ρ nx w c k R hr => ?_⟩
    obtain ⟨arr, e, fr, ys, rest, hc, ha, hv⟩ := R.read hg hr
    have hl := hv.length
    refine ⟨.agg ⟨(ys.drop off).take i.size⟩, ?_, .agg _ _ ((hv.drop off).take i.size)⟩
    simp only [loadVar, Sem.run_bind, hagg, Result.andThen_ok, if_true, sizeOf, typeInfo, run_program, hi, Sem.run_pure]
    rw [run_loadCells_at hc ha (by rw [List.length_drop, ← hl]; simpa using h2)]
    rfl
  split at h
  · exact agg h (by funext w; simp [isAgg, run_underlying hd])
  · exact agg h (by funext w; simp [isAgg, run_underlying hd])
  · rename_i hns hna
    obtain ⟨v, hv, h⟩ := lget_spec _ _ _ h
    refine ⟨v, h, fun B ρ nx w c k R hr => ?_⟩
    obtain ⟨arr, e, fr, ys, rest, hc, ha, hvs⟩ := R.read hg hr
    obtain ⟨y, hy, hyr⟩ := hvs.get hv
    refine ⟨y, ?_, hyr⟩
    have hagg : (isAgg ty).run P w = .ok false w := by
      cases d <;> first
        | (exact absurd rfl (hns _))
        | (exact absurd rfl (hna _ _))
        | simp [isAgg, run_underlying hd]
    have hcell := cell_at hc ha hy
    simp only [loadVar, Sem.run_bind, hagg, Result.andThen_ok]
    simp [run_load, hcell]

theorem part_sound {P : Program} {ty : TypeId} {xs : List Value} {off : Nat} {K : Value → Bool} (h : partK P ty xs off K = true) :
    ∃ v, K v = true ∧ ∀ (ρ : Ren) ys, VRs ρ xs ys → ∃ v', VR ρ v v' ∧ ∀ w, (part ty ⟨ys⟩ off).run P w = .ok v' w := by
  unfold partK at h
  obtain ⟨d, hd, h⟩ := undK_spec h
  have agg : ∀ {K : Value → Bool}, (infK P ty fun i => ldrop xs off fun ys => ltake i.size ys fun zs => K (.agg ⟨zs⟩)) = true → (isAgg ty).run P = (fun w => .ok true w) →
      ∃ v, K v = true ∧ ∀ (ρ : Ren) ys, VRs ρ xs ys → ∃ v', VR ρ v v' ∧ ∀ w, (part ty ⟨ys⟩ off).run P w = .ok v' w := by
    intro K h hagg
    obtain ⟨i, hi, h⟩ := infK_spec h
    obtain ⟨h1, h⟩ := ldrop_spec _ _ _ h
    obtain ⟨h2, h⟩ := ltake_spec _ _ _ h
    refine ⟨_, h, fun ρ ys hv => ⟨.agg ⟨(ys.drop off).take i.size⟩, .agg _ _ ((hv.drop off).take i.size), fun w => ?_⟩⟩
    simp only [part, Sem.run_bind, hagg, Result.andThen_ok, if_true, sizeOf, typeInfo, run_program, hi, Sem.run_pure]
    congr 2
    apply Array.toList_inj.1
    simp [Array.toList_extract, List.extract_eq_drop_take']
  split at h
  · exact agg h (by funext w; simp [isAgg, run_underlying hd])
  · exact agg h (by funext w; simp [isAgg, run_underlying hd])
  · rename_i hns hna
    obtain ⟨v, hv, h⟩ := lget_spec _ _ _ h
    refine ⟨v, h, fun ρ ys hvs => ?_⟩
    obtain ⟨y, hy, hyr⟩ := hvs.get hv
    refine ⟨y, hyr, fun w => ?_⟩
    have hagg : (isAgg ty).run P w = .ok false w := by
      cases d <;> first
        | (exact absurd rfl (hns _))
        | (exact absurd rfl (hna _ _))
        | simp [isAgg, run_underlying hd]
    simp only [part, Sem.run_bind, hagg, Result.andThen_ok]
    simp [hy]

/-- What a quiet operation answers, whatever world the state stands for. -/
def QV (P : Program) (t : Tr) (tmps : TM) (o : Oper) (v : Value) : Prop :=
  ∀ (B : Nat) (ρ : Ren) (nx : Nat) (w : World) (a : Act), Rep P B ρ t nx w → OpsR ρ tmps a o.op.operands → ∃ v', (execOp a.eval o).run P w = .ok (.value v') w ∧ VR ρ v v'

section ops
variable {P : Program} {t : Tr} {tmps : TM} {K : Value → Bool} {dst : Option Tmp} {oty : TypeId} {pos : String} {after : Array Edge} {guard : Option (Nat × Bool)}

theorem q_move {x : Operand} (h : quietK P t tmps ⟨dst, .move x, oty, pos, after, guard⟩ K = true) : ∃ v, K v = true ∧ QV P t tmps ⟨dst, .move x, oty, pos, after, guard⟩ v := by
  have h : evK tmps x K = true := h
  obtain ⟨v, h, hv⟩ := evK_ev h
  exact ⟨v, h, fun B ρ nx w a R E => ⟨_, rfl, E x v (by simp [Op.operands]) hv⟩⟩

theorem q_pick {c x y : Operand} (h : quietK P t tmps ⟨dst, .pick c x y, oty, pos, after, guard⟩ K = true) : ∃ v, K v = true ∧ QV P t tmps ⟨dst, .pick c x y, oty, pos, after, guard⟩ v := by
  have h : (evK tmps c fun v => match v with
    | .bool true => evK tmps x fun u => evK tmps y fun _ => K u
    | .bool false => evK tmps x fun _ => evK tmps y fun u => K u
    | _ => false) = true := h
  obtain ⟨cv, h, hc⟩ := evK_ev h
  split at h
  · obtain ⟨u, h, hu⟩ := evK_ev h
    obtain ⟨u', h, hu'⟩ := evK_ev h
    refine ⟨u, h, fun B ρ nx w a R E => ⟨a.eval x, ?_, E x u (by simp [Op.operands]) hu⟩⟩
    have := (E c _ (by simp [Op.operands]) hc).bool_inv
    simp [execOp, this, asBool]
  · obtain ⟨u, h, hu⟩ := evK_ev h
    obtain ⟨u', h, hu'⟩ := evK_ev h
    refine ⟨u', h, fun B ρ nx w a R E => ⟨a.eval y, ?_, E y u' (by simp [Op.operands]) hu'⟩⟩
    have := (E c _ (by simp [Op.operands]) hc).bool_inv
    simp [execOp, this, asBool]
  · exact absurd h Bool.false_ne_true

theorem q_load {ty : TypeId} {x : Operand} (h : quietK P t tmps ⟨dst, .load ty x, oty, pos, after, guard⟩ K = true) : ∃ v, K v = true ∧ QV P t tmps ⟨dst, .load ty x, oty, pos, after, guard⟩ v := by
  have h : (evK tmps x fun v => match v with
    | .pointer (some ⟨b, off, _⟩) => loadK P t ty b off K
    | _ => false) = true := h
  obtain ⟨xv, h, hx⟩ := evK_ev h
  split at h
  · obtain ⟨v, h, hl⟩ := load_sound h
    refine ⟨v, h, fun B ρ nx w a R E => ?_⟩
    obtain ⟨b', o', c, k, e, hr, hw⟩ := (E x _ (by simp [Op.operands]) hx).ptr_inv
    cases e
    obtain ⟨v', hv', hvr⟩ := hl B ρ nx w c k R hr
    refine ⟨v', ?_, hvr⟩
    simp [execOp, Instr.loadAt, hw, Instr.sureAddr, hv']
  · exact absurd h Bool.false_ne_true

theorem q_nilCheck {x : Operand} (h : quietK P t tmps ⟨dst, .nilCheck x, oty, pos, after, guard⟩ K = true) : ∃ v, K v = true ∧ QV P t tmps ⟨dst, .nilCheck x, oty, pos, after, guard⟩ v := by
  have h : (evK tmps x fun v => match v with
    | .pointer (some _) | .func (.func _) _ _ => K v
    | _ => false) = true := h
  obtain ⟨xv, h, hx⟩ := evK_ev h
  split at h
  · refine ⟨_, h, fun B ρ nx w a R E => ?_⟩
    have e := E x _ (by simp [Op.operands]) hx
    obtain ⟨b', o', c, k, _, hr, hw⟩ := e.ptr_inv
    exact ⟨_, by simp [execOp, hw], hw ▸ e⟩
  · refine ⟨_, h, fun B ρ nx w a R E => ?_⟩
    have e := E x _ (by simp [Op.operands]) hx
    obtain ⟨a', b', hw, _, _⟩ := e.func_inv
    exact ⟨_, by simp [execOp, hw], hw ▸ e⟩
  · exact absurd h Bool.false_ne_true

theorem ble_false {a b : Nat} (h : Nat.ble a b = false) : b < a := by
  rcases Nat.lt_or_ge b a with h' | h'
  · exact h'
  · rw [Nat.ble_eq_true_of_le h'] at h; cases h
theorem wrap_i64 {n : Int} (h : -9223372036854775808 ≤ n) (h' : n ≤ 9223372036854775807) : IntKind.i64.wrap n = n := by
  have p : (2 : Int) ^ 64 = 18446744073709551616 := by decide
  have q : (2 : Int) ^ 63 = 9223372036854775808 := by decide
  simp only [IntKind.wrap, IntKind.bits, IntKind.signed, p, Nat.reduceSub, q, Bool.true_and, decide_eq_true_eq]
  split <;> omega
theorem wrap_u {n : Int} (k : IntKind) (hs : k.signed = false) (b : Int) (hb : (2 : Int) ^ k.bits = b) (h : 0 ≤ n) (h' : n < b) : k.wrap n = n := by
  simp only [IntKind.wrap, hs, hb, Bool.false_and]
  simp only [Bool.false_eq_true, if_false]
  exact Int.emod_eq_of_lt h h'
theorem wrapF_eq (k : IntKind) (n : Int) : wrapF k n = k.wrap n := by
  unfold wrapF
  split
  · split
    · rfl
    · rename_i h; have h' := ble_false h; exact (wrap_i64 (Int.le_trans (by decide) (Int.natCast_nonneg _)) (Int.le_of_lt_add_one (Int.ofNat_lt.2 h'))).symm
  · split
    · rfl
    · rename_i h; have h' := ble_false h; exact (wrap_i64 (by rw [Int.negSucc_eq]; omega) (by rw [Int.negSucc_eq]; omega)).symm
  · split
    · rfl
    · rename_i h; have h' := ble_false h; exact (wrap_u .u8 rfl 256 (by decide) (Int.natCast_nonneg _) (Int.ofNat_lt.2 h')).symm
  · split
    · rfl
    · rename_i h; have h' := ble_false h; exact (wrap_u .u32 rfl 4294967296 (by decide) (Int.natCast_nonneg _) (Int.ofNat_lt.2 h')).symm
  · split
    · rfl
    · rename_i h; have h' := ble_false h; exact (wrap_u .u64 rfl 18446744073709551616 (by decide) (Int.natCast_nonneg _) (Int.ofNat_lt.2 h')).symm
  · rfl
theorem addF_eq (a b : Int) : addF a b = a + b := by cases a <;> cases b <;> rfl
theorem beqF (a b : Nat) : Nat.beq a b = decide (a = b) := by
  rw [Bool.eq_iff_iff, Nat.beq_eq, decide_eq_true_iff]
theorem bleF (a b : Nat) : Nat.ble a b = decide (a ≤ b) := by
  rw [Bool.eq_iff_iff, Nat.ble_eq, decide_eq_true_iff]
theorem eqF_eq (a b : Int) : eqF a b = decide (a = b) := by
  cases a <;> cases b <;> simp only [eqF, beqF] <;> simp <;> omega
theorem leF_eq (a b : Int) : leF a b = decide (a ≤ b) := by
  rw [Bool.eq_iff_iff, decide_eq_true_iff]
  cases a <;> cases b <;> simp only [leF, bleF, decide_eq_true_iff, Int.ofNat_eq_natCast, Int.negSucc_eq] <;> simp <;> omega

/-- What a binary operation answers. -/
def BinR (P : Program) (op : BinOp) (ty : TypeId) (x y : Operand) (a b : Value) (v : Value) : Prop :=
  ∀ (ρ : Ren) a' b', VR ρ a a' → VR ρ b b' → ∃ v', VR ρ v v' ∧ ∀ w, (do eqGuard op ty x y a' b'; binOp op ty a' b' : Sem Value).run P w = .ok v' w

theorem int_sound {P : Program} {op : BinOp} {ty : TypeId} {x y : Operand} {k : IntKind} {n m : Int} {K : Value → Bool} (h : intK op P op ty x y k n m K = true) :
    ∃ v, K v = true ∧ BinR P op ty x y (.int k n) (.int k m) v := by
  have fin : ∀ {v : Value}, K v = true → isLit0 v = true → (∀ w, (do eqGuard op ty x y (.int k n) (.int k m); binOp op ty (.int k n) (.int k m) : Sem Value).run P w = .ok v w) → ∃ v, K v = true ∧ BinR P op ty x y (.int k n) (.int k m) v := by
    intro v hk hl hr
    refine ⟨v, hk, fun ρ a' b' ha hb => ⟨v, .lit v hl, ?_⟩⟩
    rw [ha.int_inv, hb.int_inv]; exact hr
  have any : iAny P op ty x y k n m K = true → ∃ v, K v = true ∧ BinR P op ty x y (.int k n) (.int k m) v := by
    intro h
    obtain ⟨r, hr, hl, h⟩ := pureVK_spec h
    refine ⟨r, h, fun ρ a' b' ha hb => ⟨r, VR.lits r hl, ?_⟩⟩
    rw [ha.int_inv, hb.int_inv]; exact hr
  cases op <;> first | exact any h | skip
  · exact fin (v := .int k (wrapF k (addF n m))) h rfl fun w => by rw [wrapF_eq, addF_eq]; simp [eqGuard_at_int, binOp, Op.intArith]
  · exact fin (v := .int k (wrapF k (Int.sub n m))) h rfl fun w => by rw [wrapF_eq]; simp [eqGuard_at_int, binOp, Op.intArith]; rfl
  · exact fin (v := .bool (eqF n m)) h rfl fun w => by rw [eqF_eq]; simp [eqGuard_at_int, binOp, Op.intCmp]; rfl
  · exact fin (v := .bool (Bool.not (eqF n m))) h rfl fun w => by rw [eqF_eq]; simp [eqGuard_at_int, binOp, Op.intCmp]; rfl
  · exact fin (v := .bool (Bool.not (leF m n))) h rfl fun w => by rw [leF_eq]; simp [eqGuard_at_int, binOp, Op.intCmp, ← decide_not, Int.not_le]
  · exact fin (v := .bool (leF n m)) h rfl fun w => by rw [leF_eq]; simp [eqGuard_at_int, binOp, Op.intCmp, ← decide_not, Int.not_le]
  · exact fin (v := .bool (Bool.not (leF n m))) h rfl fun w => by rw [leF_eq]; simp [eqGuard_at_int, binOp, Op.intCmp, ← decide_not, Int.not_le]
  · exact fin (v := .bool (leF m n)) h rfl fun w => by rw [leF_eq]; simp [eqGuard_at_int, binOp, Op.intCmp, ← decide_not, Int.not_le]

theorem er_p1 {P : Program} {ty : TypeId} {e : TypeId} (a : Addr) (hd : P.underlying ty = some (.pointer e)) (w : World) : (Op.equal ty (.pointer none) (.pointer (some a))).run P w = .ok false w := by
  have h : ∀ d, (Op.equalIn (d + 1) ty (.pointer none) (.pointer (some a))).run P w = .ok false w := fun d => by simp [Op.equalIn, run_underlying hd]
  exact h 9999
theorem er_p2 {P : Program} {ty : TypeId} {e : TypeId} (a : Addr) (hd : P.underlying ty = some (.pointer e)) (w : World) : (Op.equal ty (.pointer (some a)) (.pointer none)).run P w = .ok false w := by
  have h : ∀ d, (Op.equalIn (d + 1) ty (.pointer (some a)) (.pointer none)).run P w = .ok false w := fun d => by simp [Op.equalIn, run_underlying hd]
  exact h 9999
theorem er_s1 {P : Program} {ty : TypeId} {e : TypeId} (a : Addr) (n m n' m' : Nat) (hd : P.underlying ty = some (.slice e)) (w : World) : (Op.equal ty (.slice none n m) (.slice (some a) n' m')).run P w = .ok false w := by
  have h : ∀ d, (Op.equalIn (d + 1) ty (.slice none n m) (.slice (some a) n' m')).run P w = .ok false w := fun d => by simp [Op.equalIn, run_underlying hd]
  exact h 9999
theorem er_s2 {P : Program} {ty : TypeId} {e : TypeId} (a : Addr) (n m n' m' : Nat) (hd : P.underlying ty = some (.slice e)) (w : World) : (Op.equal ty (.slice (some a) n m) (.slice none n' m')).run P w = .ok false w := by
  have h : ∀ d, (Op.equalIn (d + 1) ty (.slice (some a) n m) (.slice none n' m')).run P w = .ok false w := fun d => by simp [Op.equalIn, run_underlying hd]
  exact h 9999
theorem er_m1 {P : Program} {ty : TypeId} {k e : TypeId} (a : Nat) (hd : P.underlying ty = some (.map k e)) (w : World) : (Op.equal ty (.map none) (.map (some a))).run P w = .ok false w := by
  have h : ∀ d, (Op.equalIn (d + 1) ty (.map none) (.map (some a))).run P w = .ok false w := fun d => by simp [Op.equalIn, run_underlying hd]
  exact h 9999
theorem er_m2 {P : Program} {ty : TypeId} {k e : TypeId} (a : Nat) (hd : P.underlying ty = some (.map k e)) (w : World) : (Op.equal ty (.map (some a)) (.map none)).run P w = .ok false w := by
  have h : ∀ d, (Op.equalIn (d + 1) ty (.map (some a)) (.map none)).run P w = .ok false w := fun d => by simp [Op.equalIn, run_underlying hd]
  exact h 9999
theorem er_f1 {P : Program} {ty : TypeId} {ps rs : Array TypeId} {vr : Bool} (f : Fn) (a b : Array Value) (hd : P.underlying ty = some (.func ps rs vr)) (w : World) : (Op.equal ty (.nilFunc) (.func f a b)).run P w = .ok false w := by
  have h : ∀ d, (Op.equalIn (d + 1) ty (.nilFunc) (.func f a b)).run P w = .ok false w := fun d => by simp [Op.equalIn, run_underlying hd]
  exact h 9999
theorem er_f2 {P : Program} {ty : TypeId} {ps rs : Array TypeId} {vr : Bool} (f : Fn) (a b : Array Value) (hd : P.underlying ty = some (.func ps rs vr)) (w : World) : (Op.equal ty (.func f a b) (.nilFunc)).run P w = .ok false w := by
  have h : ∀ d, (Op.equalIn (d + 1) ty (.func f a b) (.nilFunc)).run P w = .ok false w := fun d => by simp [Op.equalIn, run_underlying hd]
  exact h 9999
theorem er_i1 {P : Program} {ty : TypeId} {ms : Array (String × TypeId)} (t : TypeId) (v : Value) (hd : P.underlying ty = some (.interface ms)) (w : World) : (Op.equal ty (.nilIface) (.iface t v)).run P w = .ok false w := by
  have h : ∀ d, (Op.equalIn (d + 1) ty (.nilIface) (.iface t v)).run P w = .ok false w := fun d => by simp [Op.equalIn, run_underlying hd]
  exact h 9999
theorem er_i2 {P : Program} {ty : TypeId} {ms : Array (String × TypeId)} (t : TypeId) (v : Value) (hd : P.underlying ty = some (.interface ms)) (w : World) : (Op.equal ty (.iface t v) (.nilIface)).run P w = .ok false w := by
  have h : ∀ d, (Op.equalIn (d + 1) ty (.iface t v) (.nilIface)).run P w = .ok false w := fun d => by simp [Op.equalIn, run_underlying hd]
  exact h 9999

theorem eq_sound {P : Program} {ty : TypeId} {d : TypeDesc} {a b : Value} {K : Bool → Bool} (hd : P.underlying ty = some d) (h : eqK d a b K = true) :
    ∃ r, K r = true ∧ ∀ (ρ : Ren) a' b', VR ρ a a' → VR ρ b b' → ∀ (w : World) (x y : Operand),
      (do eqGuard .eql ty x y a' b'; binOp .eql ty a' b' : Sem Value).run P w = .ok (.bool r) w ∧ (do eqGuard .neq ty x y a' b'; binOp .neq ty a' b' : Sem Value).run P w = .ok (.bool (!r)) w := by
  unfold eqK at h
  split at h <;> first | exact absurd h Bool.false_ne_true | (refine ⟨_, h, fun ρ a' b' ha hb w x y => ?_⟩)
  · obtain rfl := VR.lit0_eq rfl ha
    obtain ⟨_, _, _, _, _, _, rfl⟩ := hb.ptr_inv
    simp [eqGuard_at_pointer, binOp, er_p1 _ hd]
  · obtain rfl := VR.lit0_eq rfl hb
    obtain ⟨_, _, _, _, _, _, rfl⟩ := ha.ptr_inv
    simp [eqGuard_at_pointer, binOp, er_p2 _ hd]
  · obtain ⟨rfl, _, _⟩ := ha.slice_none_inv
    obtain ⟨bb, oo, _, ⟨_, _, _, _, rfl⟩ | ⟨_, _, _, _, _, _, _, _, rfl⟩ | ⟨_, _, _, _, _, _, rfl⟩⟩ := hb.slice_inv <;>
      simp [eqGuard_at_slice, binOp, er_s1 _ _ _ _ _ hd]
  · obtain ⟨rfl, _, _⟩ := hb.slice_none_inv
    obtain ⟨bb, oo, _, ⟨_, _, _, _, rfl⟩ | ⟨_, _, _, _, _, _, _, _, rfl⟩ | ⟨_, _, _, _, _, _, rfl⟩⟩ := ha.slice_inv <;>
      simp [eqGuard_at_slice, binOp, er_s2 _ _ _ _ _ hd]
  · obtain rfl := VR.lit0_eq rfl ha
    obtain ⟨_, _, rfl, _⟩ := hb.map_inv
    simp [eqGuard_at_map, binOp, er_m1 _ hd]
  · obtain rfl := VR.lit0_eq rfl hb
    obtain ⟨_, _, rfl, _⟩ := ha.map_inv
    simp [eqGuard_at_map, binOp, er_m2 _ hd]
  · obtain rfl := VR.lit0_eq rfl ha
    have hb' : ∃ f u v, b' = .func f u v := by
      cases hb with
      | lit _ _ => exact ⟨_, _, _, rfl⟩
      | func f a b a' b' ha hb => exact ⟨_, _, _, rfl⟩
      | yield l c k h => exact ⟨_, _, _, rfl⟩
    obtain ⟨f, u, v, rfl⟩ := hb'
    simp [eqGuard_at_nilFunc, binOp, er_f1 _ _ _ hd]
  · obtain rfl := VR.lit0_eq rfl hb
    have ha' : ∃ f u v, a' = .func f u v := by
      cases ha with
      | lit _ _ => exact ⟨_, _, _, rfl⟩
      | func f a b a' b' ha hb => exact ⟨_, _, _, rfl⟩
      | yield l c k h => exact ⟨_, _, _, rfl⟩
    obtain ⟨f, u, v, rfl⟩ := ha'
    simp [eqGuard_at_func, binOp, er_f2 _ _ _ hd]
  · obtain rfl := VR.lit0_eq rfl ha
    obtain ⟨v', rfl, _⟩ := hb.iface_inv
    simp [eqGuard_nil_iface, binOp, er_i1 _ _ hd]
  · obtain rfl := VR.lit0_eq rfl hb
    obtain ⟨v', rfl, _⟩ := ha.iface_inv
    simp [eqGuard_at_iface, binOp, er_i2 _ _ hd]

theorem bAny_sound {P : Program} {op : BinOp} {ty : TypeId} {x y : Operand} {a b : Value} {K : Value → Bool} (h : bAny P op ty x y a b K = true) :
    ∃ v, K v = true ∧ BinR P op ty x y a b v := by
  unfold bAny at h
  cases hl : (isLit a && isLit b) <;> simp only [hl] at h
  · unfold bNil at h
    split at h
    · obtain ⟨d, hd, h⟩ := undK_spec h
      obtain ⟨r, h, hr⟩ := eq_sound hd h
      exact ⟨_, h, fun ρ a' b' ha hb => ⟨_, .lit _ rfl, fun w => (hr ρ a' b' ha hb w x y).1⟩⟩
    · obtain ⟨d, hd, h⟩ := undK_spec h
      obtain ⟨r, h, hr⟩ := eq_sound hd h
      exact ⟨_, h, fun ρ a' b' ha hb => ⟨_, .lit _ rfl, fun w => (hr ρ a' b' ha hb w x y).2⟩⟩
    · exact absurd h Bool.false_ne_true
  · rw [Bool.and_eq_true] at hl
    obtain ⟨r, hr, hlr, h⟩ := pureVK_spec h
    refine ⟨r, h, fun ρ a' b' ha hb => ⟨r, VR.lits r hlr, ?_⟩⟩
    rw [VR.lit_eq hl.1 ha, VR.lit_eq hl.2 hb]; exact hr

theorem bin_sound {P : Program} {op : BinOp} {ty : TypeId} {x y : Operand} {a b : Value} {K : Value → Bool} (h : binK P op ty x y a b K = true) :
    ∃ v, K v = true ∧ BinR P op ty x y a b v := by
  have other : bAny P op ty x y a b K = true → ∃ v, K v = true ∧ BinR P op ty x y a b v := bAny_sound
  cases a <;> first | exact other h | skip
  rename_i k n
  cases b <;> first | exact other h | skip
  rename_i l m
  have h2 : (match Nat.beq (kindNo k) (kindNo l) with | true => intK op | false => bInt.iDiff l : IT) P op ty x y k n m K = true := h
  clear h other
  cases hk : Nat.beq (kindNo k) (kindNo l) <;> simp only [hk] at h2
  · obtain ⟨r, hr, hl, h⟩ := pureVK_spec h2
    refine ⟨r, h, fun ρ a' b' ha hb => ⟨r, VR.lits r hl, ?_⟩⟩
    rw [ha.int_inv, hb.int_inv]; exact hr
  · have : k = l := by cases k <;> cases l <;> first | rfl | (exact absurd hk Bool.false_ne_true)
    subst this
    exact int_sound h2

theorem q_binOp {op : BinOp} {ty : TypeId} {x y : Operand} {yt : TypeId} (h : quietK P t tmps ⟨dst, .binOp op ty x y yt, oty, pos, after, guard⟩ K = true) :
    ∃ v, K v = true ∧ QV P t tmps ⟨dst, .binOp op ty x y yt, oty, pos, after, guard⟩ v := by
  obtain ⟨xv, h, hx⟩ := evK_ev (x := x) h
  obtain ⟨yv, h, hy⟩ := evK_ev (x := y) h
  obtain ⟨v, h, hv⟩ := bin_sound h
  refine ⟨v, h, fun B ρ nx w a R E => ?_⟩
  obtain ⟨v', hr, hw⟩ := hv ρ _ _ (E x _ (by simp [Op.operands]) hx) (E y _ (by simp [Op.operands]) hy)
  refine ⟨v', ?_, hr⟩
  have := hw w
  simp only [Sem.run_bind] at this
  simp only [execOp, Sem.run_bind, this, Result.andThen_ok, Sem.run_pure]

theorem q_unOp {op : UnOp} {ty : TypeId} {x : Operand} (h : quietK P t tmps ⟨dst, .unOp op ty x, oty, pos, after, guard⟩ K = true) : ∃ v, K v = true ∧ QV P t tmps ⟨dst, .unOp op ty x, oty, pos, after, guard⟩ v := by
  obtain ⟨xv, h, hx⟩ := evK_ev (x := x) h
  obtain ⟨hl, h⟩ := boolK_f h
  obtain ⟨r, hr, hlr, h⟩ := pureVK_spec h
  refine ⟨r, h, fun B ρ nx w a R E => ⟨r, ?_, VR.lits r hlr⟩⟩
  have e := VR.lit_eq hl (E x _ (by simp [Op.operands]) hx)
  simp [execOp, e, hr]

theorem q_makeInterface {ty : TypeId} {x : Operand} (h : quietK P t tmps ⟨dst, .makeInterface ty x, oty, pos, after, guard⟩ K = true) : ∃ v, K v = true ∧ QV P t tmps ⟨dst, .makeInterface ty x, oty, pos, after, guard⟩ v := by
  obtain ⟨xv, h, hx⟩ := evK_ev (x := x) h
  obtain ⟨d, hd, h⟩ := undK_spec h
  split at h
  · exact absurd h Bool.false_ne_true
  · rename_i hni
    refine ⟨_, h, fun B ρ nx w a R E => ⟨.iface ty (a.eval x), ?_, .iface _ _ _ (E x _ (by simp [Op.operands]) hx)⟩⟩
    cases d <;> first
      | exact absurd rfl (hni _)
      | simp [execOp, Instr.makeInterface, run_underlying hd]
end ops
end Go.Abs

/-! ## Operations that only read, the rest. -/
namespace Go.Abs
open Go
set_option linter.unusedVariables false
set_option linter.unusedSimpArgs false

theorem pureRun_bind {α β : Type} {P : Program} : ∀ (x : Sem α) (f : α → Sem β), pureRun P (x >>= f) = (pureRun P x).bind fun a => pureRun P (f a)
  | .pure a, f => rfl
  | .program k, f => pureRun_bind (k P) f
  | .load .., _ => rfl
  | .store .., _ => rfl
  | .new .., _ => rfl
  | .shape .., _ => rfl
  | .freeze .., _ => rfl
  | .frozen .., _ => rfl
  | .getObj .., _ => rfl
  | .setObj .., _ => rfl
  | .choose .., _ => rfl
  | .sys .., _ => rfl
  | .mark .., _ => rfl
  | .halt .., _ => rfl
theorem pureRun_pure {α : Type} {P : Program} (a : α) : pureRun P (pure a : Sem α) = some a := rfl
theorem pureRun_stuck {α : Type} {P : Program} (s : String) : pureRun P (stuck s : Sem α) = none := rfl
theorem pureRun_underlying {P : Program} {t : TypeId} {d : TypeDesc} (h : P.underlying t = some d) : pureRun P (underlying t) = some d := by
  have : pureRun P (underlying t) = pureRun P (match P.underlying t with | some d => pure d | none => stuck "no such type" : Sem TypeDesc) := rfl
  rw [this, h]; rfl
theorem pureRun_typeInfo {P : Program} {t : TypeId} {i : TypeInfo} (h : P.info? t = some i) : pureRun P (typeInfo t) = some i := by
  have : pureRun P (typeInfo t) = pureRun P (match P.info? t with | some i => pure i | none => stuck "no such type" : Sem TypeInfo) := rfl
  rw [this, h]; rfl

theorem arr_map {α β : Type} (xs : Array α) (f : α → β) : xs.map f = ⟨xs.toList.map f⟩ := by cases xs; simp

/-! Rows of operands. -/
theorem evs_VRs {ρ : Ren} {tmps : TM} {xs : List Operand} {vs : List Value} {a : Act} (hl : vs.length = xs.length)
    (hv : ∀ (i : Nat) (x : Operand) (v : Value), xs[i]? = some x → vs[i]? = some v → Ev tmps x v) (E : ∀ x v, x ∈ xs → Ev tmps x v → VR ρ v (a.eval x)) : VRs ρ vs (xs.map a.eval) :=
  VRs.of_get (by simp [hl]) fun i v hi => by
    have hlt : i < xs.length := by rw [← hl]; exact (List.getElem?_eq_some_iff.1 hi).1
    have hx : xs[i]? = some xs[i] := List.getElem?_eq_getElem hlt
    exact ⟨a.eval xs[i], by simp [hlt], E _ v (List.getElem_mem hlt) (hv i _ v hx hi)⟩

/-- Parts, each at its place. -/
inductive PRs (ρ : Ren) : List (Nat × Value) → List (Nat × Value) → Prop
  | nil : PRs ρ [] []
  | cons (i : Nat) (v w : Value) (xs ys : List (Nat × Value)) (h : VR ρ v w) (t : PRs ρ xs ys) : PRs ρ ((i, v) :: xs) ((i, w) :: ys)
theorem evpK_ev {tmps : TM} : ∀ {xs : List (Nat × Operand)} {K : List (Nat × Value) → Bool}, evpK tmps xs K = true →
    ∃ ps, K ps = true ∧ ∀ (ρ : Ren) (a : Act), (∀ x v, x ∈ xs.map (·.2) → Ev tmps x v → VR ρ v (a.eval x)) → PRs ρ ps (xs.map fun p => (p.1, a.eval p.2))
  | [], K, h => ⟨[], h, fun _ _ _ => .nil⟩
  | (i, x) :: xs, K, h => by
    obtain ⟨v, h, hv⟩ := evK_ev (K := fun v => evpK tmps xs fun vs => K ((i, v) :: vs)) h
    obtain ⟨ps, h, hps⟩ := evpK_ev h
    exact ⟨(i, v) :: ps, h, fun ρ a E => .cons _ _ _ _ _ (E x v (by simp) hv) (hps ρ a fun y u hy hu => E y u (by simp at hy ⊢; exact .inr hy) hu)⟩

theorem foldl_set_rel {ρ : Ren} (off : Nat) : ∀ {vs ws : List Value} (j : Nat) {cs ds : Array Value}, VRs ρ vs ws → VRs ρ cs.toList ds.toList →
    VRs ρ ((vs.zipIdx j).foldl (fun cs (p : Value × Nat) => cs.setIfInBounds (off + p.2) p.1) cs).toList ((ws.zipIdx j).foldl (fun cs (p : Value × Nat) => cs.setIfInBounds (off + p.2) p.1) ds).toList
  | _, _, j, cs, ds, .nil, h => h
  | _, _, j, cs, ds, .cons x y xs ys hr t, h => by
    simp only [List.zipIdx_cons, List.foldl_cons]
    exact foldl_set_rel off (j + 1) t (by rw [Array.toList_setIfInBounds, Array.toList_setIfInBounds]; exact h.set (off + j) hr)
theorem fill_rel {ρ : Ren} {place : Nat → Option (Nat × Nat)} : ∀ {ps qs : List (Nat × Value)} {cs ds r : Array Value}, PRs ρ ps qs → VRs ρ cs.toList ds.toList → Instr.fill place cs ps = some r →
    ∃ r', Instr.fill place ds qs = some r' ∧ VRs ρ r.toList r'.toList
  | _, _, cs, ds, r, .nil, h, e => ⟨ds, rfl, by simp [Instr.fill] at e; subst e; exact h⟩
  | _, _, cs, ds, r, .cons i v w xs ys hr t, h, e => by
    simp only [Instr.fill] at e ⊢
    have hc := hr.cells.length
    have hs := h.length
    simp only [Array.length_toList] at hc hs
    split at e
    · cases e
    · rename_i off size hp
      split at e
      · cases e
      · rename_i hn
        rw [if_neg (by rw [← hc, ← hs]; exact hn)]
        refine fill_rel t ?_ e
        have := foldl_set_rel (ρ := ρ) off 0 (cs := cs) (ds := ds) hr.cells h
        rw [← Array.foldl_toList, ← Array.foldl_toList, Array.toList_zipIdx, Array.toList_zipIdx]
        exact this

section ops
variable {P : Program} {t : Tr} {tmps : TM} {K : Value → Bool} {dst : Option Tmp} {oty : TypeId} {pos : String} {after : Array Edge} {guard : Option (Nat × Bool)}

theorem q_makeFunc {fn : Fn} {first captured : Array Operand} (h : quietK P t tmps ⟨dst, .makeFunc fn first captured, oty, pos, after, guard⟩ K = true) :
    ∃ v, K v = true ∧ QV P t tmps ⟨dst, .makeFunc fn first captured, oty, pos, after, guard⟩ v := by
  cases fn with
  | func f =>
    obtain ⟨as, h, hla, hva⟩ := evsK_ev (xs := first.toList) (K := fun a => evsK tmps captured.toList fun b => K (.func (.func f) ⟨a⟩ ⟨b⟩)) h
    obtain ⟨bs, h, hlb, hvb⟩ := evsK_ev h
    refine ⟨_, h, fun B ρ nx w a R E => ⟨.func (.func f) ⟨first.toList.map a.eval⟩ ⟨captured.toList.map a.eval⟩, ?_, ?_⟩⟩
    · simp only [execOp, Instr.makeFunc, arr_map]; rfl
    · exact .func f _ _ _ _ (evs_VRs hla hva fun x v hx hv => E x v (by simp [Op.operands] at hx ⊢; exact .inl hx) hv)
        (evs_VRs hlb hvb fun x v hx hv => E x v (by simp [Op.operands] at hx ⊢; exact .inr hx) hv)
  | _ => exact absurd h Bool.false_ne_true

theorem q_fieldAddr {s : TypeId} {x : Operand} {f : Nat} (h : quietK P t tmps ⟨dst, .fieldAddr s x f, oty, pos, after, guard⟩ K = true) :
    ∃ v, K v = true ∧ QV P t tmps ⟨dst, .fieldAddr s x f, oty, pos, after, guard⟩ v := by
  obtain ⟨xv, h, hx⟩ := evK_ev (x := x) h
  split at h
  · rename_i b off sp
    obtain ⟨d, hd, h⟩ := undK_spec h
    split at h
    · rename_i fields
      obtain ⟨fl, hf, h⟩ := optK h
      obtain ⟨i, hi, h⟩ := infK_spec h
      obtain ⟨m, hm, h⟩ := natcK h
      refine ⟨_, h, fun B ρ nx w a R E => ?_⟩
      obtain ⟨b', o', c, k, e, hr, hw⟩ := (E x _ (by simp [Op.operands]) hx).ptr_inv
      cases e
      refine ⟨_, ?_, .ptr _ _ c k hr⟩
      simp [execOp, Instr.fieldAt, run_underlying hd, hf, hw, Instr.sureAddr, fieldPlace, sizeOf, typeInfo, hi, hm, Addr.add_lit]
    · exact absurd h Bool.false_ne_true
  · exact absurd h Bool.false_ne_true

theorem q_field {ty : TypeId} {x : Operand} {f : Nat} (h : quietK P t tmps ⟨dst, .field ty x f, oty, pos, after, guard⟩ K = true) :
    ∃ v, K v = true ∧ QV P t tmps ⟨dst, .field ty x f, oty, pos, after, guard⟩ v := by
  obtain ⟨xv, h, hx⟩ := evK_ev (x := x) h
  split at h
  · rename_i cs
    obtain ⟨d, hd, h⟩ := undK_spec h
    split at h
    · rename_i fields
      obtain ⟨fl, hf, h⟩ := optK h
      obtain ⟨v, h, hv⟩ := part_sound h
      refine ⟨_, h, fun B ρ nx w a R E => ?_⟩
      obtain ⟨ys, hw, hys⟩ := (E x _ (by simp [Op.operands]) hx).agg_inv
      obtain ⟨v', hr, hrun⟩ := hv ρ ys hys
      refine ⟨v', ?_, hr⟩
      simp [execOp, Instr.field, run_underlying hd, hf, hw, asAgg, hrun]
    · exact absurd h Bool.false_ne_true
  · exact absurd h Bool.false_ne_true

theorem q_indexAddr {ty : TypeId} {x ix : Operand} (h : quietK P t tmps ⟨dst, .indexAddr ty x ix, oty, pos, after, guard⟩ K = true) :
    ∃ v, K v = true ∧ QV P t tmps ⟨dst, .indexAddr ty x ix, oty, pos, after, guard⟩ v := by
  obtain ⟨xv, h, hx⟩ := evK_ev (x := x) h
  obtain ⟨iv, h, hix⟩ := evK_ev (x := ix) h
  obtain ⟨ik, i, rfl, h⟩ := natK_spec h
  obtain ⟨d, hd, h⟩ := undK_spec h
  split at h
  · rename_i len elem b off sp
    obtain ⟨hlt, h⟩ := boolK_t h
    have hlt := ble_false hlt
    obtain ⟨inf, hi, h⟩ := infK_spec h
    refine ⟨_, h, fun B ρ nx w a R E => ?_⟩
    obtain ⟨b', o', c, k, e, hr, hw⟩ := (E x _ (by simp [Op.operands]) hx).ptr_inv
    cases e
    have hiv := (E ix _ (by simp [Op.operands]) hix).int_inv
    refine ⟨_, ?_, .ptr _ _ c k hr⟩
    simp [execOp, Instr.indexAt, run_underlying hd, hw, hiv, asIntOf, Instr.sureAddr, sizeOf, typeInfo, hi, hlt, Addr.add_lit]
  · rename_i elem b off sp len q
    obtain ⟨hlt, h⟩ := boolK_t h
    have hlt := ble_false hlt
    obtain ⟨inf, hi, h⟩ := infK_spec h
    refine ⟨_, h, fun B ρ nx w a R E => ?_⟩
    have hiv := (E ix _ (by simp [Op.operands]) hix).int_inv
    obtain ⟨b', o', e, ⟨c, k, hr, _, hw⟩ | ⟨c, k, q', hr, _, _, _, _, hw⟩ | ⟨c, o'', q', _, hn, _, hw⟩⟩ := (E x _ (by simp [Op.operands]) hx).slice_inv
    · cases e
      refine ⟨_, ?_, .ptr _ _ c k hr⟩
      simp [execOp, Instr.indexAt, run_underlying hd, hw, hiv, asIntOf, sizeOf, typeInfo, hi, hlt, Addr.add_lit]
    · cases e
      refine ⟨_, ?_, .ptr _ _ c k hr⟩
      simp [execOp, Instr.indexAt, run_underlying hd, hw, hiv, asIntOf, sizeOf, typeInfo, hi, hlt, Addr.add_lit]
    · omega
  · exact absurd h Bool.false_ne_true

theorem q_index {ty : TypeId} {x ix : Operand} (h : quietK P t tmps ⟨dst, .index ty x ix, oty, pos, after, guard⟩ K = true) :
    ∃ v, K v = true ∧ QV P t tmps ⟨dst, .index ty x ix, oty, pos, after, guard⟩ v := by
  obtain ⟨xv, h, hx⟩ := evK_ev (x := x) h
  obtain ⟨iv, h, hix⟩ := evK_ev (x := ix) h
  split at h
  · obtain ⟨hl, h⟩ := boolK_f h
    obtain ⟨r, hr, hlr, h⟩ := pureVK_spec h
    refine ⟨r, h, fun B ρ nx w a R E => ⟨r, ?_, VR.lits r hlr⟩⟩
    have e1 := (E x _ (by simp [Op.operands]) hx).string_inv
    have e2 := VR.lit_eq hl (E ix _ (by simp [Op.operands]) hix)
    simp [execOp, e1, e2, hr]
  · rename_i cs
    obtain ⟨ik, i, rfl, h⟩ := natK_spec h
    obtain ⟨d, hd, h⟩ := undK_spec h
    split at h
    · rename_i len elem
      obtain ⟨hlt, h⟩ := boolK_t h
      have hlt := ble_false hlt
      obtain ⟨inf, hi, h⟩ := infK_spec h
      obtain ⟨v, h, hv⟩ := part_sound h
      refine ⟨_, h, fun B ρ nx w a R E => ?_⟩
      obtain ⟨ys, hw, hys⟩ := (E x _ (by simp [Op.operands]) hx).agg_inv
      have hiv := (E ix _ (by simp [Op.operands]) hix).int_inv
      obtain ⟨v', hr, hrun⟩ := hv ρ ys hys
      refine ⟨v', ?_, hr⟩
      have hrun' : ∀ w, (part elem ⟨ys⟩ (i * inf.size)).run P w = .ok v' w := hrun
      simp [execOp, Instr.index, run_underlying hd, hw, hiv, asIntOf, sizeOf, typeInfo, hi, hlt, hrun']
    · exact absurd h Bool.false_ne_true
  · exact absurd h Bool.false_ne_true

theorem q_extract {x : Operand} {i : Nat} (h : quietK P t tmps ⟨dst, .extract x i, oty, pos, after, guard⟩ K = true) :
    ∃ v, K v = true ∧ QV P t tmps ⟨dst, .extract x i, oty, pos, after, guard⟩ v := by
  obtain ⟨xv, h, hx⟩ := evK_ev (x := x) h
  split at h
  · rename_i vs
    obtain ⟨v, hv, h⟩ := lget_spec _ _ _ h
    refine ⟨_, h, fun B ρ nx w a R E => ?_⟩
    obtain ⟨ys, hw, hys⟩ := (E x _ (by simp [Op.operands]) hx).tuple_inv
    obtain ⟨y, hy, hr⟩ := hys.get hv
    refine ⟨y, ?_, hr⟩
    simp [execOp, Instr.extract, hw, hy]
  · exact absurd h Bool.false_ne_true

theorem q_typeAssert {x : Operand} {xt as : TypeId} {ok : Bool} (h : quietK P t tmps ⟨dst, .typeAssert x xt as ok, oty, pos, after, guard⟩ K = true) :
    ∃ v, K v = true ∧ QV P t tmps ⟨dst, .typeAssert x xt as ok, oty, pos, after, guard⟩ v := by
  obtain ⟨xv, h, hx⟩ := evK_ev (x := x) h
  split at h
  · obtain ⟨r, hr, hlr, h⟩ := pureVK_spec h
    refine ⟨r, h, fun B ρ nx w a R E => ⟨r, ?_, VR.lits r hlr⟩⟩
    have e1 := VR.lit0_eq rfl (E x _ (by simp [Op.operands]) hx)
    simp [execOp, e1, hr]
  · rename_i ty u
    obtain ⟨d, hd, h⟩ := undK_spec h
    split at h
    · exact absurd h Bool.false_ne_true
    · rename_i hni
      obtain ⟨hte, h2⟩ := boolK_f h
      clear h
      have hte := Nat.eq_of_beq_eq_true hte
      subst hte
      have run : ∀ (w : World) u', (Instr.typeAssert (.iface ty u') xt ty ok).run P w = .ok (if ok then .tuple #[u', .bool true] else u') w := by
        intro w u'
        cases d <;> first
          | exact absurd rfl (hni _)
          | simp [Instr.typeAssert, run_underlying hd]
      rcases boolK_true h2 with ⟨hok, h3⟩ | ⟨hok, h3⟩ <;> refine ⟨_, h3, fun B ρ nx w a R E => ?_⟩ <;> obtain ⟨u', hw, hu⟩ := (E x _ (by simp [Op.operands]) hx).iface_inv
      · exact ⟨.tuple #[u', .bool true], by have r1 := run w u'; simp [hok] at r1; simp [execOp, hw, hok, r1], .tuple [u, .bool true] [u', .bool true] (.cons _ _ _ _ hu (.cons _ _ _ _ (.lit _ rfl) .nil))⟩
      · exact ⟨u', by have r1 := run w u'; simp [hok] at r1; simp [execOp, hw, hok, r1], hu⟩
  · exact absurd h Bool.false_ne_true

theorem q_build {ty : TypeId} {parts : Array (Nat × Operand)} (h : quietK P t tmps ⟨dst, .build ty parts, oty, pos, after, guard⟩ K = true) :
    ∃ v, K v = true ∧ QV P t tmps ⟨dst, .build ty parts, oty, pos, after, guard⟩ v := by
  obtain ⟨ps, h, hps⟩ := evpK_ev (xs := parts.toList) (K := fun ps => zeroK P ty fun _ => pureK P (Instr.build ty ⟨ps⟩) fun v => fV v K) h
  obtain ⟨i, z, hi, hz, hzl, h⟩ := zeroK_spec h
  obtain ⟨v, hv, h⟩ := pureK_spec h
  have h := fV_spec _ _ h
  refine ⟨v, h, fun B ρ nx w a R E => ?_⟩
  have hp := hps ρ a fun x v hx hv => E x v (by simpa [Op.operands] using hx) hv
  have hzv : pureRun P (zeroValue ty) = some z := by
    simp only [zeroValue, pureRun_bind, pureRun_typeInfo hi, Option.bind_some, hz]; rfl
  have key : ∃ v', pureRun P (Instr.build ty ⟨parts.toList.map fun p => (p.1, a.eval p.2)⟩) = some v' ∧ VR ρ v v' := by
    unfold Instr.build at hv ⊢
    simp only [pureRun_bind, hzv, Option.bind_some] at hv ⊢
    cases hd : pureRun P (underlying ty) with
    | none => rw [hd] at hv; cases hv
    | some d =>
      rw [hd] at hv
      simp only [Option.bind_some] at hv ⊢
      cases d <;> first | cases hv | skip
      · rename_i n elem
        simp only [pureRun_bind] at hv ⊢
        cases hs : pureRun P (sizeOf elem) with
        | none => rw [hs] at hv; cases hv
        | some size =>
          rw [hs] at hv
          simp only [Option.bind_some] at hv ⊢
          cases hf : Instr.fill (fun i => some (i * size, size)) z.cells ps with
          | none => rw [hf] at hv; cases hv
          | some r =>
            rw [hf] at hv
            obtain ⟨r', hf', hr⟩ := fill_rel (ds := z.cells) hp (VRs.lits _ hzl) hf
            rw [hf']
            cases hv
            exact ⟨.agg r', rfl, .agg _ _ hr⟩
      · rename_i fields
        simp only [pureRun_bind] at hv ⊢
        cases hs : pureRun P (fields.mapM fun f => do pure (f.offset, ← sizeOf f.type) : Sem (Array (Nat × Nat))) with
        | none => rw [hs] at hv; cases hv
        | some places =>
          rw [hs] at hv
          simp only [Option.bind_some] at hv ⊢
          cases hf : Instr.fill (places[·]?) z.cells ps with
          | none => rw [hf] at hv; cases hv
          | some r =>
            rw [hf] at hv
            obtain ⟨r', hf', hr⟩ := fill_rel (ds := z.cells) hp (VRs.lits _ hzl) hf
            rw [hf']
            cases hv
            exact ⟨.agg r', rfl, .agg _ _ hr⟩
  obtain ⟨v', hv', hr⟩ := key
  refine ⟨v', ?_, hr⟩
  have := pureRun_ok _ _ w hv'
  simp only [execOp, arr_map, Sem.run_bind, this, Result.andThen_ok, Sem.run_pure]

theorem ERs.findIdx {ρ : Ren} {kd : TypeDesc} {k : Value} : ∀ {es fs : List MapEntry} (i : Nat), ERs ρ es fs →
    (∀ j v, Instr.findNow kd k es i = some (some (j, v)) → ∃ v', Instr.findNow kd k fs i = some (some (j, v')) ∧ VR ρ v v') ∧ (Instr.findNow kd k es i = some none → Instr.findNow kd k fs i = some none)
  | _, _, i, .nil => ⟨fun j v h => by simp [Instr.findNow] at h, fun h => rfl⟩
  | _, _, i, .cons q v v' n es fs hk hr t => by
    have ih := ERs.findIdx (kd := kd) (k := k) (i + 1) t
    simp only [Instr.findNow]
    cases hs : Instr.sameNow kd k q with
    | none => simp
    | some b => cases b with
      | true =>
        refine ⟨fun j u h => ?_, fun h => by simp at h⟩
        simp at h
        obtain ⟨rfl, rfl⟩ := h
        exact ⟨v', rfl, hr⟩
      | false => exact ih
theorem run_checkKey {P : Program} {key : TypeId} {kd : TypeDesc} (hk : P.underlying key = some kd) (hd : kd = .string ∨ ∃ k, kd = .int k) (e : Bool) (kv : Value) (w : World) :
    (Instr.checkKey e 10000 key kv).run P w = .ok () w := by
  have h : ∀ n, (Instr.checkKey e (n + 1) key kv).run P w = .ok () w := fun n => by
    rcases hd with rfl | ⟨k, rfl⟩ <;> cases kv <;> simp [Instr.checkKey, run_underlying hk]
  exact h 9999
theorem miss_sound {elem : TypeId} {kv : Value} {ok : Bool} (h : missK P elem kv ok K = true) :
    ∃ z, K (if ok then .tuple #[z, .bool false] else z) = true ∧ isLit1 z = true ∧ ∀ w, (zeroValue elem).run P w = .ok z w := by
  obtain ⟨i, hi, h⟩ := infK_spec h
  obtain ⟨z, hz, h⟩ := optK h
  obtain ⟨hl, h⟩ := boolK_f h
  have hr : ∀ w, (zeroValue elem).run P w = .ok z w := fun w => by simp [zeroValue, typeInfo, hi, hz]
  rcases boolK_true h with ⟨hok, h⟩ | ⟨hok, h⟩
  · exact ⟨z, by rw [hok]; exact h, hl, hr⟩
  · exact ⟨z, by rw [hok]; exact h, hl, hr⟩

theorem plain_kd {kd : TypeDesc} (h : plainKey kd = true) : kd = .string ∨ ∃ k, kd = .int k := by
  cases kd <;> first | exact .inl rfl | exact .inr ⟨_, rfl⟩ | exact absurd h Bool.false_ne_true
theorem q_lookup {ty : TypeId} {x ix : Operand} {ok : Bool} (h : quietK P t tmps ⟨dst, .lookup ty x ix ok, oty, pos, after, guard⟩ K = true) :
    ∃ v, K v = true ∧ QV P t tmps ⟨dst, .lookup ty x ix ok, oty, pos, after, guard⟩ v := by
  obtain ⟨xv, h, hx⟩ := evK_ev (x := x) h
  obtain ⟨kv, h, hix⟩ := evK_ev (x := ix) h
  obtain ⟨d, hd, h⟩ := undK_spec h
  split at h
  · rename_i key elem
    obtain ⟨kd, hk, h⟩ := undK_spec h
    obtain ⟨hl, h⟩ := boolK_f h
    rw [Bool.and_eq_true] at hl
    obtain ⟨hp, hl⟩ := hl
    have hck := fun e w => run_checkKey hk (plain_kd hp) e kv w
    unfold lookK at h
    split at h
    · obtain ⟨z, h, hz, hzr⟩ := miss_sound h
      refine ⟨_, h, fun B ρ nx w a R E => ⟨if ok then .tuple #[z, .bool false] else z, ?_, ?_⟩⟩
      · have e1 := VR.lit0_eq rfl (E x _ (by simp [Op.operands]) hx)
        have e2 := VR.lit0_eq hl (E ix _ (by simp [Op.operands]) hix)
        simp [execOp, Instr.lookup, e1, e2, run_underlying hd, hck, Instr.findKey, run_underlying hk, Instr.findNow, hzr]
      · cases ok
        · exact VR.lit1 z hz
        · exact .tuple _ _ (.cons _ _ _ _ (VR.lit1 z hz) (.cons _ _ _ _ (.lit _ rfl) .nil))
    · split at h
      · rename_i es clock hg
        have conc : ∀ (B : Nat) (ρ : Ren) (nx : Nat) (w : World) (a : Act), Rep P B ρ t nx w → OpsR ρ tmps a (Op.lookup ty x ix ok).operands →
            ∃ c fs, a.eval x = .map (some c) ∧ a.eval ix = kv ∧ ERs ρ es fs.toList ∧ w.heap[c]? = some (.map fs clock) := by
          intro B ρ nx w a R E
          obtain ⟨c, k, hw, hr⟩ := (E x _ (by simp [Op.operands]) hx).map_inv
          obtain ⟨o, ho, hb⟩ := R.blk _ _ c k hg hr
          cases o <;> first | exact hb.elim | skip
          rename_i fs clock'
          obtain ⟨rfl, he⟩ := hb
          exact ⟨c, fs, hw, VR.lit0_eq hl (E ix _ (by simp [Op.operands]) hix), he, ho⟩
        split at h
        · rename_i j r hf
          rcases boolK_true h with ⟨hok, h3⟩ | ⟨hok, h3⟩ <;> refine ⟨_, h3, fun B ρ nx w a R E => ?_⟩ <;> obtain ⟨c, fs, e1, e2, he, ho⟩ := conc B ρ nx w a R E <;>
            obtain ⟨r', hf', hr⟩ := (he.findIdx (kd := kd) (k := kv) 0).1 j r hf
          · refine ⟨.tuple #[r', .bool true], ?_, .tuple _ _ (.cons _ _ _ _ hr (.cons _ _ _ _ (.lit _ rfl) .nil))⟩
            simp [execOp, Instr.lookup, e1, e2, run_underlying hd, hck, Instr.findKey, run_underlying hk, getObj, Sem.run, ho, hf', hok]
          · refine ⟨r', ?_, hr⟩
            simp [execOp, Instr.lookup, e1, e2, run_underlying hd, hck, Instr.findKey, run_underlying hk, getObj, Sem.run, ho, hf', hok]
        · rename_i hf
          obtain ⟨z, h, hz, hzr⟩ := miss_sound h
          refine ⟨_, h, fun B ρ nx w a R E => ⟨if ok then .tuple #[z, .bool false] else z, ?_, ?_⟩⟩
          · obtain ⟨c, fs, e1, e2, he, ho⟩ := conc B ρ nx w a R E
            have hf' := (he.findIdx (kd := kd) (k := kv) 0).2 hf
            simp [execOp, Instr.lookup, e1, e2, run_underlying hd, hck, Instr.findKey, run_underlying hk, getObj, Sem.run, ho, hf', hzr]
          · cases ok
            · exact VR.lit1 z hz
            · exact .tuple _ _ (.cons _ _ _ _ (VR.lit1 z hz) (.cons _ _ _ _ (.lit _ rfl) .nil))
        · exact absurd h Bool.false_ne_true
      · exact absurd h Bool.false_ne_true
    · exact absurd h Bool.false_ne_true
  · exact absurd h Bool.false_ne_true

theorem ERs.find {ρ : Ren} (stamp : Nat) : ∀ {es fs : List MapEntry} {e : MapEntry}, ERs ρ es fs → es.find? (fun e => Nat.beq e.born stamp) = some e →
    ∃ f, fs.find? (fun e => e.born == stamp) = some f ∧ f.key = e.key ∧ isLit0 e.key = true ∧ VR ρ e.val f.val
  | _, _, e, .nil, h => by simp at h
  | _, _, e, .cons q v v' n es fs hk hr t, h => by
    simp only [List.find?_cons] at h ⊢
    have hb : Nat.beq n stamp = (n == stamp) := by rw [beqF]; rfl
    cases hn : (n == stamp) with
    | true =>
      rw [hb, hn] at h
      simp at h
      subst h
      exact ⟨⟨q, v', n⟩, rfl, rfl, hk, hr⟩
    | false =>
      rw [hb, hn] at h
      exact ERs.find stamp t h

theorem q_entry {x : Operand} (h : quietK P t tmps ⟨dst, .entry x, oty, pos, after, guard⟩ K = true) :
    ∃ v, K v = true ∧ QV P t tmps ⟨dst, .entry x, oty, pos, after, guard⟩ v := by
  obtain ⟨xv, h, hx⟩ := evK_ev (x := x) h
  split at h
  · rename_i r sp
    split at h
    · rename_i m since seen last hg
      split at h
      · rename_i stamp es clock hs hgm
        obtain ⟨hc, h⟩ := boolK_f h
        have hc := Nat.eq_of_beq_eq_true hc
        split at h
        · rename_i e he
          refine ⟨_, h, fun B ρ nx w a R E => ?_⟩
          obtain ⟨b', o', c, k, e1, hr, hw⟩ := (E x _ (by simp [Op.operands]) hx).ptr_inv
          cases e1
          obtain ⟨o, ho, hb⟩ := R.blk _ _ c k hg hr
          cases o <;> first | exact hb.elim | skip
          rename_i m' since' seen' last'
          obtain ⟨rfl, rfl, rfl, cm, q, hrm, rfl⟩ := hb
          obtain ⟨om, hom, hbm⟩ := R.blk _ _ cm q hgm hrm
          cases om <;> first | exact hbm.elim | skip
          rename_i fs clock'
          obtain ⟨rfl, hes⟩ := hbm
          obtain ⟨f, hf, hfk, hkl, hfv⟩ := hes.find stamp he
          refine ⟨.tuple #[f.key, f.val], ?_, .tuple [e.key, e.val] [f.key, f.val] (.cons _ _ _ _ (by rw [hfk]; exact .lit _ hkl) (.cons _ _ _ _ hfv .nil))⟩
          have hback : (⟨seen⟩ : Array Nat).back? = some stamp := by rw [← hs]; simp [Array.back?, List.getLast?_eq_getElem?]
          have hff : fs.find? (fun e => e.born == stamp) = some f := by rw [← hf]; simp
          simp [execOp, Instr.entry, hw, getObj, Sem.run, ho, hback, hom, hc, hff]
        · exact absurd h Bool.false_ne_true
      · exact absurd h Bool.false_ne_true
    · exact absurd h Bool.false_ne_true
  · exact absurd h Bool.false_ne_true
end ops
end Go.Abs

/-! ## Operations that only read: slices, conversions, the built-ins; and all of them. -/
namespace Go.Abs
open Go
set_option linter.unusedVariables false
set_option linter.unusedSimpArgs false

/-- A bound: none was given, or it is a number within the most. -/
def Bd (tmps : TM) (x : Option Operand) (dflt most n : Nat) : Prop :=
  (x = none ∧ n = dflt) ∨ ∃ y k, x = some y ∧ Ev tmps y (.int k (Int.ofNat n)) ∧ n ≤ most
theorem boundK_spec {tmps : TM} {x : Option Operand} {dflt most : Nat} {K : Nat → Bool} (h : boundK tmps x dflt most K = true) : ∃ n, Bd tmps x dflt most n ∧ K n = true := by
  cases x with
  | none => exact ⟨dflt, .inl ⟨rfl, rfl⟩, h⟩
  | some y =>
    obtain ⟨v, h, hv⟩ := evK_ev (x := y) h
    obtain ⟨k, n, rfl, h⟩ := natK_spec h
    obtain ⟨hl, h⟩ := boolK_f h
    exact ⟨n, .inr ⟨y, k, rfl, hv, Nat.le_of_ble_eq_true hl⟩, h⟩
/-- The same of the machine's value. -/
def BdV (x : Option Value) (dflt most n : Nat) : Prop := (x = none ∧ n = dflt) ∨ ∃ k, x = some (.int k (Int.ofNat n)) ∧ n ≤ most
theorem Bd.val {ρ : Ren} {tmps : TM} {x : Option Operand} {dflt most n : Nat} {a : Act} (h : Bd tmps x dflt most n) (E : ∀ y v, x = some y → Ev tmps y v → VR ρ v (a.eval y)) : BdV (x.map a.eval) dflt most n := by
  rcases h with ⟨rfl, rfl⟩ | ⟨y, k, rfl, hv, hn⟩
  · exact .inl ⟨rfl, rfl⟩
  · exact .inr ⟨k, by rw [Option.map_some, (E y _ rfl hv).int_inv], hn⟩
theorem BdV.mono {x : Option Value} {d d' most most' n : Nat} (h : BdV x d most n) (hd : x = none → n = d → n = d') (hm : most ≤ most') : BdV x d' most' n := by
  rcases h with ⟨h1, h2⟩ | ⟨k, h1, h2⟩
  · exact .inl ⟨h1, hd h1 h2⟩
  · exact .inr ⟨k, h1, Nat.le_trans h2 hm⟩
theorem run_bound {P : Program} {w : World} (k : IntKind) (n y : Nat) (code : BoundsCode) (h : n ≤ y) : (Instr.sliceBound (.int k (Int.ofNat n)) y code).run P w = .ok n w := by
  simp [Instr.sliceBound, asIntOf, h]
theorem run_bounds {P : Program} {w : World} {isSlice : Bool} {len cap l h m : Nat} {lo hi mx : Option Value} (hm : BdV mx cap cap m) (hh : BdV hi len m h) (hl : BdV lo 0 h l) (ok : hi = none → mx = none) :
    (Instr.sliceBounds isSlice len cap lo hi mx).run P w = .ok (l, h, m) w := by
  unfold Instr.sliceBounds
  rcases hm with ⟨rfl, rfl⟩ | ⟨km, rfl, hm⟩ <;> rcases hh with ⟨rfl, rfl⟩ | ⟨kh, rfl, hh⟩ <;> rcases hl with ⟨rfl, rfl⟩ | ⟨kl, rfl, hl⟩ <;> first
    | (cases ok rfl; done)
    | (simp only [Sem.run_bind, Sem.run_pure, Result.andThen_ok, run_bound _ _ _ _ hm, run_bound _ _ _ _ hh, run_bound _ _ _ _ hl]; done)
    | (simp only [Sem.run_bind, Sem.run_pure, Result.andThen_ok, run_bound _ _ _ _ hm, run_bound _ _ _ _ hh]; done)
    | (simp only [Sem.run_bind, Sem.run_pure, Result.andThen_ok, run_bound _ _ _ _ hh, run_bound _ _ _ _ hl]; done)
    | (simp only [Sem.run_bind, Sem.run_pure, Result.andThen_ok, run_bound _ _ _ _ hh]; done)
    | (simp only [Sem.run_bind, Sem.run_pure, Result.andThen_ok, run_bound _ _ _ _ hl]; done)
    | (simp only [Sem.run_bind, Sem.run_pure, Result.andThen_ok]; done)

/-- What a slice expression answers of a slice (or of an array's address) of so many elements. -/
def SlR (P : Program) (tmps : TM) (lo hi mx : Option Operand) (size n : Nat) (c : Nat) (a : Option Addr) (v : Value) : Prop :=
  ∀ (ρ : Ren) (act : Act) (q : Nat) (a' : Option Addr), (∀ x u, (some x = lo ∨ some x = hi ∨ some x = mx) → Ev tmps x u → VR ρ u (act.eval x)) → VR ρ (.slice a n c) (.slice a' n q) →
    ∃ l h m v', (∀ (w : World) (b : Bool), (Instr.sliceBounds b n q (lo.map act.eval) (hi.map act.eval) (mx.map act.eval)).run P w = .ok (l, h, m) w) ∧
      v' = .slice (if m = l then a' else a'.map (·.add (l * size))) (h - l) (m - l) ∧ VR ρ v v'

theorem add_spot (c o n : Nat) : (⟨c, o, none⟩ : Addr).add n = ⟨c, o + n, none⟩ := Addr.add_lit c o n

theorem known_sound {P : Program} {tmps : TM} {size n c : Nat} {a : Option Addr} {lo hi mx : Option Operand} {K : Value → Bool} (hok : okMx hi mx = true) (hc : c < capU) (h : sliceKnown size tmps a n c lo hi mx K = true) :
    ∃ v, K v = true ∧ SlR P tmps lo hi mx size n c a v := by
  obtain ⟨m, hm, h⟩ := boundK_spec h
  obtain ⟨hh', hh, h⟩ := boundK_spec h
  obtain ⟨l, hl, h⟩ := boundK_spec h
  have okv : ∀ act : Act, hi.map act.eval = none → mx.map act.eval = none := by
    intro act e
    cases hi with
    | none => cases mx with
      | none => rfl
      | some _ => exact absurd hok Bool.false_ne_true
    | some _ => cases e
  have bm : m ≤ c := by rcases hm with ⟨_, rfl⟩ | ⟨_, _, _, _, h⟩ <;> omega
  have run : ∀ (ρ : Ren) (act : Act), (∀ x u, (some x = lo ∨ some x = hi ∨ some x = mx) → Ev tmps x u → VR ρ u (act.eval x)) →
      ∀ (w : World) (b : Bool), (Instr.sliceBounds b n c (lo.map act.eval) (hi.map act.eval) (mx.map act.eval)).run P w = .ok (l, hh', m) w := fun ρ act E w b =>
    run_bounds (hm.val fun y v e => E y v (by simp [e])) (hh.val fun y v e => E y v (by simp [e])) (hl.val fun y v e => E y v (by simp [e])) (okv act)
  have bmh : hi = none → mx = none := by
    intro e; cases mx with
    | none => rfl
    | some _ => rw [e] at hok; exact absurd hok Bool.false_ne_true
  rcases boolK_true h with ⟨hml, h⟩ | ⟨hml, h⟩
  · have hml := Nat.eq_of_beq_eq_true hml
    refine ⟨_, h, fun ρ act q a' E hv => ?_⟩
    cases a with
    | none =>
      obtain ⟨e, e1, e2⟩ := hv.slice_none_inv
      cases e
      subst e2
      have e3 : m = 0 := by omega
      subst e3
      have e4 : hh' = 0 := by rcases hh with ⟨_, rfl⟩ | ⟨_, _, _, _, h⟩ <;> omega
      subst e4
      exact ⟨l, 0, 0, _, run ρ act E, rfl, by rw [if_pos hml]; subst hml; exact .lit _ rfl⟩
    | some a =>
      obtain ⟨b, o, e, ⟨c', k, hr, _, hw⟩ | ⟨_, _, _, _, hcu, _⟩ | ⟨_, _, _, hce, _⟩⟩ := hv.slice_inv
      · cases e; cases hw
        exact ⟨l, hh', m, _, run ρ act E, rfl, by rw [if_pos hml]; exact .slice _ _ _ _ _ _ hr (by simp only [capU] at hc ⊢; show m - l < _; omega)⟩
      · omega
      · simp only [capU, capE] at hc hce; omega
  · have hml : m ≠ l := fun e => by rw [e, beqF] at hml; simp at hml
    split at h
    · refine ⟨_, h, fun ρ act q a' E hv => ?_⟩
      obtain ⟨e, e1, e2⟩ := hv.slice_none_inv
      cases e
      subst e2
      have e3 : m = 0 := by omega
      subst e3
      have e4 : hh' = 0 := by rcases hh with ⟨_, rfl⟩ | ⟨_, _, _, _, h⟩ <;> omega
      subst e4
      exact ⟨l, 0, 0, _, run ρ act E, rfl, by rw [if_neg hml]; simp; exact .lit _ rfl⟩
    · refine ⟨_, h, fun ρ act q a' E hv => ?_⟩
      obtain ⟨b, o, e, ⟨c', k, hr, _, hw⟩ | ⟨_, _, _, _, hcu, _⟩ | ⟨_, _, _, hce, _⟩⟩ := hv.slice_inv
      · cases e; cases hw
        exact ⟨l, hh', m, _, run ρ act E, rfl, by rw [if_neg hml, Option.map_some, add_spot]; exact .slice _ _ _ _ _ _ hr (by simp only [capU] at hc ⊢; show m - l < _; omega)⟩
      · omega
      · simp only [capU, capE] at hc hce; omega

theorem sl_sound {P : Program} {tmps : TM} {size n c : Nat} {a : Option Addr} {lo hi mx : Option Operand} {K : Value → Bool} (hok : okMx hi mx = true) (h : sliceK size tmps a n c lo hi mx K = true) :
    ∃ v, K v = true ∧ SlR P tmps lo hi mx size n c a v := by
  unfold sliceK at h
  cases hc : Nat.ble capU c with
  | false => simp only [hc] at h; exact known_sound hok (ble_false hc) h
  | true =>
    simp only [hc] at h
    have hc := Nat.le_of_ble_eq_true hc
    have okv : ∀ act : Act, hi.map act.eval = none → mx.map act.eval = none := by
      intro act e
      cases hi with
      | none => cases mx with
        | none => rfl
        | some _ => exact absurd hok Bool.false_ne_true
      | some _ => cases e
    cases a with
    | none => exact absurd h Bool.false_ne_true
    | some a =>
      simp only at h
      cases hcu : Nat.beq c capU with
      | false =>
        simp only [hcu] at h
        have hne : c ≠ capU := fun e => by rw [e, beqF] at hcu; simp at hcu
        -- the empty one
        have fin : ∀ {l hh' m : Nat}, K (.slice (some ⟨a.block, a.off, none⟩) 0 capE) = true →
            (∀ (ρ : Ren) (act : Act) (q : Nat), (∀ x u, (some x = lo ∨ some x = hi ∨ some x = mx) → Ev tmps x u → VR ρ u (act.eval x)) → ∃ l h m, h - l = 0 ∧ m - l ≤ q ∧ (∀ (w : World) (b : Bool), (Instr.sliceBounds b 0 q (lo.map act.eval) (hi.map act.eval) (mx.map act.eval)).run P w = .ok (l, h, m) w)) →
            ∃ v, K v = true ∧ SlR P tmps lo hi mx size n c (some a) v := by
          intro _ _ _ hk hr
          refine ⟨_, hk, fun ρ act q a' E hv => ?_⟩
          obtain ⟨b, o, e, ⟨_, _, _, hlt, _⟩ | ⟨_, _, _, _, e', _⟩ | ⟨c', o', q', he, hn, hq, hw⟩⟩ := hv.slice_inv
          · omega
          · exact absurd e' hne
          · subst hn
            cases hw
            obtain ⟨l, h', m, h0, hmq, hrun⟩ := hr ρ act q E
            refine ⟨l, h', m, _, hrun, rfl, ?_⟩
            rw [h0]
            have hadd : ∃ o'', (if m = l then some (⟨c', o', none⟩ : Addr) else Option.map (fun x : Addr => x.add (l * size)) (some (⟨c', o', none⟩ : Addr))) = some ⟨c', o'', none⟩ := by
              split
              · exact ⟨_, rfl⟩
              · exact ⟨_, by rw [Option.map_some, add_spot]⟩
            obtain ⟨o'', ho⟩ := hadd
            rw [ho]
            exact .sliceE _ _ _ _ _ (by omega)
        unfold sliceEmpty at h
        cases mx with
        | some x =>
          obtain ⟨m, hm, h⟩ := boundK_spec h
          obtain ⟨hh', hh, h⟩ := boundK_spec h
          obtain ⟨l, hl, h⟩ := boundK_spec h
          refine fin (l := l) (hh' := hh') (m := m) h fun ρ act q E => ⟨l, hh', m, ?_, ?_, fun w b => ?_⟩
          · rcases hm with ⟨e, _⟩ | ⟨_, _, _, _, hm⟩
            · cases e
            · rcases hh with ⟨e, e'⟩ | ⟨_, _, _, _, hh⟩ <;> omega
          · rcases hm with ⟨e, _⟩ | ⟨_, _, _, _, hm⟩
            · cases e
            · omega
          · refine run_bounds ((hm.val fun y v e => E y v (by simp [e])).mono (fun e => by cases e) (Nat.zero_le _)) (hh.val fun y v e => E y v (by simp [e])) (hl.val fun y v e => E y v (by simp [e])) (okv act)
        | none =>
          obtain ⟨hh', hh, h⟩ := boundK_spec h
          obtain ⟨l, hl, h⟩ := boundK_spec h
          refine fin (l := l) (hh' := hh') (m := 0) h fun ρ act q E => ⟨l, hh', q, ?_, by omega, fun w b => ?_⟩
          · rcases hh with ⟨e, e'⟩ | ⟨_, _, _, _, hh⟩ <;> omega
          · refine run_bounds (.inl ⟨rfl, rfl⟩) ((hh.val fun y v e => E y v (by simp [e])).mono (fun _ e => e) (Nat.zero_le _)) (hl.val fun y v e => E y v (by simp [e])) (okv act)
      | true =>
        simp only [hcu] at h
        have hcu := Nat.eq_of_beq_eq_true hcu
        subst hcu
        obtain ⟨sz, hsz, h⟩ := natcK h
        have open_ : ∀ {ρ : Ren} {q : Nat} {a' : Option Addr}, VR ρ (.slice (some a) n capU) (.slice a' n q) → ∃ b o c' k, a = ⟨b, o, none⟩ ∧ a' = some ⟨c', o, none⟩ ∧ ρ b = some (c', k) ∧ n ≤ q ∧ q ≤ maxLen ∧ (o = 0 → q = k) := by
          intro ρ q a' hv
          obtain ⟨b, o, e, ⟨_, _, _, hlt, _⟩ | ⟨c', k, q', hr, _, hn, hq, h0, hw⟩ | ⟨_, _, _, he, _⟩⟩ := hv.slice_inv
          · omega
          · cases hw; exact ⟨b, o, c', k, e, rfl, hr, hn, hq, h0⟩
          · simp [capU, capE] at he
        unfold sliceOpen at h
        cases mx with
        | some x =>
          obtain ⟨m, hm, h⟩ := boundK_spec h
          obtain ⟨hh', hh, h⟩ := boundK_spec h
          obtain ⟨l, hl, h⟩ := boundK_spec h
          have hmn : m ≤ n := by
            rcases hm with ⟨e, _⟩ | ⟨_, _, _, _, hm⟩
            · cases e
            · exact hm
          have run : ∀ (ρ : Ren) (act : Act) (q : Nat), n ≤ q → (∀ y u, (some y = lo ∨ some y = hi ∨ some y = some x) → Ev tmps y u → VR ρ u (act.eval y)) →
              ∀ (w : World) (b : Bool), (Instr.sliceBounds b n q (lo.map act.eval) (hi.map act.eval) ((some x).map act.eval)).run P w = .ok (l, hh', m) w := fun ρ act q hq E w b =>
            run_bounds ((hm.val fun y v e => E y v (by simp [e])).mono (fun e => by cases e) hq) (hh.val fun y v e => E y v (by simp [e])) (hl.val fun y v e => E y v (by simp [e])) (okv act)
          rcases boolK_true h with ⟨hml, h⟩ | ⟨hml, h⟩
          · have hml := Nat.eq_of_beq_eq_true hml
            refine ⟨_, h, fun ρ act q a' E hv => ?_⟩
            obtain ⟨b, o, c', k, rfl, rfl, hr, hn, hq, _⟩ := open_ hv
            exact ⟨l, hh', m, _, run ρ act q hn E, rfl, by rw [if_pos hml]; exact .slice _ _ _ _ _ _ hr (by simp only [capU, maxLen] at hq ⊢; show m - l < _; omega)⟩
          · have hml : m ≠ l := fun e => by rw [e, beqF] at hml; simp at hml
            refine ⟨_, h, fun ρ act q a' E hv => ?_⟩
            obtain ⟨b, o, c', k, rfl, rfl, hr, hn, hq, _⟩ := open_ hv
            exact ⟨l, hh', m, _, run ρ act q hn E, rfl, by rw [if_neg hml, Option.map_some, add_spot]; exact .slice _ _ _ _ _ _ hr (by simp only [capU, maxLen] at hq ⊢; show m - l < _; omega)⟩
        | none =>
          obtain ⟨hh', hh, h⟩ := boundK_spec h
          obtain ⟨l, hl, h⟩ := boundK_spec h
          have hhn : hh' ≤ n := by rcases hh with ⟨_, rfl⟩ | ⟨_, _, _, _, h⟩ <;> omega
          have hlh : l ≤ hh' := by rcases hl with ⟨_, rfl⟩ | ⟨_, _, _, _, h⟩ <;> omega
          have run : ∀ (ρ : Ren) (act : Act) (q : Nat), n ≤ q → (∀ y u, (some y = lo ∨ some y = hi ∨ some y = none) → Ev tmps y u → VR ρ u (act.eval y)) →
              ∀ (w : World) (b : Bool), (Instr.sliceBounds b n q (lo.map act.eval) (hi.map act.eval) ((none : Option Operand).map act.eval)).run P w = .ok (l, hh', q) w := fun ρ act q hq E w b =>
            run_bounds (.inl ⟨rfl, rfl⟩) ((hh.val fun y v e => E y v (by simp [e])).mono (fun _ e => e) hq) (hl.val fun y v e => E y v (by simp [e])) (okv act)
          rcases boolK_true h with ⟨hln, h⟩ | ⟨hln, h⟩
          · have hln := Nat.eq_of_beq_eq_true hln
            cases n with
            | zero =>
              refine ⟨_, h, fun ρ act q a' E hv => ?_⟩
              obtain ⟨b, o, c', k, rfl, rfl, hr, hn, hq, h0⟩ := open_ hv
              have e0 : l = 0 := by omega
              have e1 : hh' = 0 := by omega
              subst e0; subst e1
              refine ⟨0, 0, q, _, run ρ act q hn E, rfl, ?_⟩
              have : (if q = 0 then some (⟨c', o, none⟩ : Addr) else Option.map (fun x : Addr => x.add (0 * size)) (some (⟨c', o, none⟩ : Addr))) = some ⟨c', o, none⟩ := by
                split
                · rfl
                · rw [Option.map_some, add_spot]; simp
              rw [this]
              exact .sliceU _ _ _ _ _ _ hr (Nat.zero_le _) (by simpa using hq) (fun e => by simpa using h0 e)
            | succ n =>
              refine ⟨_, h, fun ρ act q a' E hv => ?_⟩
              obtain ⟨b, o, c', k, rfl, rfl, hr, hn, hq, h0⟩ := open_ hv
              refine ⟨l, hh', q, _, run ρ act q hn E, rfl, ?_⟩
              have hz : hh' - l = 0 := by omega
              rw [hz]
              have hadd : ∃ o'', (if q = l then some (⟨c', o, none⟩ : Addr) else Option.map (fun x : Addr => x.add (l * size)) (some (⟨c', o, none⟩ : Addr))) = some ⟨c', o'', none⟩ := by
                split
                · exact ⟨_, rfl⟩
                · exact ⟨_, by rw [Option.map_some, add_spot]⟩
              obtain ⟨o'', ho⟩ := hadd
              rw [ho]
              exact .sliceE _ _ _ _ _ (by omega)
          · have hln : l ≠ n := fun e => by rw [e, beqF] at hln; simp at hln
            refine ⟨_, h, fun ρ act q a' E hv => ?_⟩
            obtain ⟨b, o, c', k, rfl, rfl, hr, hn, hq, h0⟩ := open_ hv
            refine ⟨l, hh', q, _, run ρ act q hn E, rfl, ?_⟩
            rw [if_neg (by omega), Option.map_some, add_spot]
            refine .sliceU _ _ _ _ _ _ hr (by show hh' - l ≤ q - l; omega) (by omega) (fun e => ?_)
            have e : o + l * size = 0 := e
            have e1 : o = 0 := by omega
            have e2 : l * size = 0 := by omega
            have e3 : l = 0 := by
              rcases Nat.mul_eq_zero.1 e2 with h | h
              · exact h
              · omega
            have := h0 e1
            omega

section ops
variable {P : Program} {t : Tr} {tmps : TM} {K : Value → Bool} {dst : Option Tmp} {oty : TypeId} {pos : String} {after : Array Edge} {guard : Option (Nat × Bool)}

theorem q_slice {ty : TypeId} {x : Operand} {lo hi mx : Option Operand} (h : quietK P t tmps ⟨dst, .slice ty x lo hi mx, oty, pos, after, guard⟩ K = true) :
    ∃ v, K v = true ∧ QV P t tmps ⟨dst, .slice ty x lo hi mx, oty, pos, after, guard⟩ v := by
  obtain ⟨hok, h⟩ := boolK_f h
  obtain ⟨xv, h, hx⟩ := evK_ev (x := x) h
  obtain ⟨d, hd, h⟩ := undK_spec h
  have mem : ∀ {y : Operand}, (some y = lo ∨ some y = hi ∨ some y = mx) → y ∈ (Op.slice ty x lo hi mx).operands := by
    intro y hy
    rcases hy with rfl | rfl | rfl <;> simp [Op.operands]
  split at h
  · split at h
    · exact absurd h Bool.false_ne_true
    · obtain ⟨hh', hh, h⟩ := boundK_spec h
      obtain ⟨l, hl, h⟩ := boundK_spec h
      refine ⟨_, h, fun B ρ nx w a R E => ⟨_, ?_, .lit _ rfl⟩⟩
      have e1 := (E x _ (by simp [Op.operands]) hx).string_inv
      have hb := run_bounds (P := P) (w := w) (isSlice := false) (mx := none) (.inl ⟨rfl, rfl⟩) (hh.val (a := a) fun y v e => E y v (mem (by simp [e]))) (hl.val (a := a) fun y v e => E y v (mem (by simp [e]))) (fun _ => rfl)
      simp [execOp, Instr.sliceAt, Instr.slice, run_underlying hd, e1, hb]
  · rename_i elem b n c hzz
    obtain ⟨inf, hi', h⟩ := infK_spec h
    obtain ⟨v, h, hv⟩ := sl_sound (P := P) hok h
    refine ⟨v, h, fun B ρ nx w a R E => ?_⟩
    have ex := E x _ (by simp [Op.operands]) hx
    have sh : ∃ a' q, a.eval x = .slice a' n q := by
      cases b with
      | none => obtain ⟨e, rfl, rfl⟩ := ex.slice_none_inv; exact ⟨_, _, e⟩
      | some b => obtain ⟨_, _, _, ⟨_, _, _, _, e⟩ | ⟨_, _, _, _, _, _, _, _, e⟩ | ⟨_, _, _, _, rfl, _, e⟩⟩ := ex.slice_inv <;> exact ⟨_, _, e⟩
    obtain ⟨a', q, e⟩ := sh
    rw [e] at ex
    obtain ⟨l, h', m, v', hrun, rfl, hr⟩ := hv ρ a q a' (fun y u hy => E y u (mem hy)) ex
    refine ⟨_, ?_, hr⟩
    simp [execOp, Instr.sliceAt, Instr.slice, run_underlying hd, e, hrun, sizeOf, typeInfo, hi']
  · rename_i n elem ad hzz
    obtain ⟨inf, hi', h⟩ := infK_spec h
    obtain ⟨hn, h⟩ := boolK_t h
    have hn := ble_false hn
    obtain ⟨v, h, hv⟩ := known_sound (P := P) hok hn h
    refine ⟨v, h, fun B ρ nx w a R E => ?_⟩
    obtain ⟨b', o', c, k, e, hr, hw⟩ := (E x _ (by simp [Op.operands]) hx).ptr_inv
    cases e
    obtain ⟨l, h', m, v', hrun, rfl, hvr⟩ := hv ρ a n (some ⟨c, o', none⟩) (fun y u hy => E y u (mem hy)) (.slice _ _ _ _ _ _ hr hn)
    refine ⟨_, ?_, hvr⟩
    simp [execOp, Instr.sliceAt, run_underlying hd, hw, Instr.sureAddr, hrun, sizeOf, typeInfo, hi']
    split <;> simp_all
  · exact absurd h Bool.false_ne_true
end ops
end Go.Abs

/-! ## Operations that only read: conversions, the built-ins; and all of them. -/
namespace Go.Abs
open Go
set_option linter.unusedVariables false
set_option linter.unusedSimpArgs false

theorem bytesK_spec : ∀ {xs : List Value} {K : List UInt8 → Bool}, bytesK xs K = true → ∃ ns : List Int, xs = ns.map (Value.int .u8) ∧ K (ns.map fun n => UInt8.ofNat n.toNat) = true
  | [], K, h => ⟨[], rfl, h⟩
  | x :: xs, K, h => by
    cases x with
    | int k n =>
      cases k with
      | u8 =>
        obtain ⟨ns, e, h2⟩ := bytesK_spec (xs := xs) (K := fun t => K (UInt8.ofNat n.toNat :: t)) h
        exact ⟨n :: ns, by rw [e]; rfl, h2⟩
      | _ => exact absurd h Bool.false_ne_true
    | _ => exact absurd h Bool.false_ne_true
theorem push_all (ns : List Int) : ∀ s : ByteArray, ns.foldl (fun r n => r.push (UInt8.ofNat n.toNat)) s = ⟨⟨s.data.toList ++ ns.map fun n => UInt8.ofNat n.toNat⟩⟩ := by
  induction ns with
  | nil => intro s; simp
  | cons n ns ih =>
    intro s
    rw [List.foldl_cons, ih]
    congr 2
    simp [ByteArray.push]

section ops
variable {P : Program} {t : Tr} {tmps : TM} {K : Value → Bool} {dst : Option Tmp} {oty : TypeId} {pos : String} {after : Array Edge} {guard : Option (Nat × Bool)}

theorem q_convert {src cdst : TypeId} {x : Operand} (h : quietK P t tmps ⟨dst, .convert src cdst x, oty, pos, after, guard⟩ K = true) :
    ∃ v, K v = true ∧ QV P t tmps ⟨dst, .convert src cdst x, oty, pos, after, guard⟩ v := by
  obtain ⟨xv, h, hx⟩ := evK_ev (x := x) h
  obtain ⟨s, hs, h⟩ := undK_spec h
  obtain ⟨d, hd, h⟩ := undK_spec h
  have lit : qConvLit src cdst xv P t tmps oty K = true → ∃ v, K v = true ∧ QV P t tmps ⟨dst, .convert src cdst x, oty, pos, after, guard⟩ v := by
    intro h
    obtain ⟨hl, h⟩ := boolK_f h
    obtain ⟨r, hr, hlr, h⟩ := pureVK_spec h
    refine ⟨r, h, fun B ρ nx w a R E => ⟨r, ?_, VR.lits r hlr⟩⟩
    have e := VR.lit_eq hl (E x _ (by simp [Op.operands]) hx)
    simp [execOp, e, hr]
  have bytes : ∀ {e b off n q : Nat} {sp : Option Nat}, s = .slice e → d = .string → xv = .slice (some ⟨b, off, sp⟩) n q → qConvBytes b off n e P t tmps oty K = true →
      ∃ v, K v = true ∧ QV P t tmps ⟨dst, .convert src cdst x, oty, pos, after, guard⟩ v := by
    intro e b off n q sp es ed exv h
    subst es; subst ed; subst exv
    obtain ⟨ed, he, h⟩ := undK_spec h
    split at h
    · obtain ⟨xs, hg, h⟩ := readK_spec h
      obtain ⟨h1, h⟩ := ldrop_spec _ _ _ h
      obtain ⟨h2, h⟩ := ltake_spec _ _ _ h
      obtain ⟨ns, hns, h⟩ := bytesK_spec h
      refine ⟨_, h, fun B ρ nx w a R E => ?_⟩
      obtain ⟨b', o', e1, ⟨c, k, hr, _, hw⟩ | ⟨c, k, q', hr, _, _, _, _, hw⟩ | ⟨c, o'', q', _, hn, _, hw⟩⟩ := (E x _ (by simp [Op.operands]) hx).slice_inv
      · cases e1
        obtain ⟨arr, ee, fr, ys, rest, hc, ha, hv⟩ := R.read hg hr
        have hl := hv.length
        have e2 : (ys.drop off).take n = ns.map (Value.int .u8) := by
          rw [← hns]
          exact VRs.lit0_eq ((hv.drop off).take n) (by rw [hns]; intro z hz; obtain ⟨m, _, rfl⟩ := List.mem_map.1 hz; rfl)
        have hload := run_loadCells_at (P := P) hc ha (n := n) (off := off) (by rw [List.length_drop, ← hl]; simpa using h2)
        rw [e2] at hload
        refine ⟨_, ?_, .lit _ rfl⟩
        simp only [execOp, hw, Sem.run_bind, run_convert_bytes_string w src cdst e _ _ _ hs he hd, run_bytesToString w _ _ _ ns hload, Result.andThen_ok, Sem.run_pure, push_all]
        rfl
      · cases e1
        obtain ⟨arr, ee, fr, ys, rest, hc, ha, hv⟩ := R.read hg hr
        have hl := hv.length
        have e2 : (ys.drop off).take n = ns.map (Value.int .u8) := by
          rw [← hns]
          exact VRs.lit0_eq ((hv.drop off).take n) (by rw [hns]; intro z hz; obtain ⟨m, _, rfl⟩ := List.mem_map.1 hz; rfl)
        have hload := run_loadCells_at (P := P) hc ha (n := n) (off := off) (by rw [List.length_drop, ← hl]; simpa using h2)
        rw [e2] at hload
        refine ⟨_, ?_, .lit _ rfl⟩
        simp only [execOp, hw, Sem.run_bind, run_convert_bytes_string w src cdst e _ _ _ hs he hd, run_bytesToString w _ _ _ ns hload, Result.andThen_ok, Sem.run_pure, push_all]
        rfl
      · subst hn
        have e2 : ns = [] := by
          have : (ns.map (Value.int .u8)).length = 0 := by rw [← hns]; simp
          simpa using this
        subst e2
        have hload : (loadCells ⟨c, o'', none⟩ 0).run P w = .ok (([] : List Int).map (Value.int .u8)).toArray w := rfl
        refine ⟨_, ?_, .lit _ rfl⟩
        simp only [execOp, hw, Sem.run_bind, run_convert_bytes_string w src cdst e _ _ _ hs he hd, run_bytesToString w _ _ _ [] hload, Result.andThen_ok, Sem.run_pure]
        rfl
    · exact absurd h Bool.false_ne_true
  have h : qConvK src cdst s d xv P t tmps oty K = true := h
  generalize hm : qConvK src cdst s d xv = f at h
  unfold qConvK at hm
  split at hm
  · subst hm; exact bytes rfl rfl rfl h
  · subst hm; exact absurd h Bool.false_ne_true
  · subst hm; exact lit h

theorem VR.slice_len {ρ : Ren} {b : Option Addr} {n c : Nat} {w : Value} (h : VR ρ (.slice b n c) w) : ∃ a' q, w = .slice a' n q := by
  cases b with
  | none => obtain ⟨e, rfl, rfl⟩ := h.slice_none_inv; exact ⟨_, _, e⟩
  | some b => obtain ⟨_, _, _, ⟨_, _, _, _, e⟩ | ⟨_, _, _, _, _, _, _, _, e⟩ | ⟨_, _, _, _, rfl, _, e⟩⟩ := h.slice_inv <;> exact ⟨_, _, e⟩
theorem VR.slice_known {ρ : Ren} {b : Option Addr} {n c : Nat} {w : Value} (h : VR ρ (.slice b n c) w) (hc : c < capU) : ∃ a', w = .slice a' n c := by
  cases b with
  | none => obtain ⟨e, rfl, rfl⟩ := h.slice_none_inv; exact ⟨_, e⟩
  | some b =>
    obtain ⟨_, _, _, ⟨_, _, _, _, e⟩ | ⟨_, _, _, _, e', _⟩ | ⟨_, _, _, e', _⟩⟩ := h.slice_inv
    · exact ⟨_, e⟩
    · omega
    · simp only [capU, capE] at hc e'; omega

theorem builtin_run {b : Builtin} {args : Array Operand} {argTypes : Array TypeId} {a : Act} {w : World} {v : Value} (hb : (builtin b argTypes oty (args.map fun | .const _ => true | _ => false) (args.map a.eval)).run P w = .ok (.value v) w) :
    (execOp a.eval ⟨dst, .call ⟨.builtin b, args, argTypes⟩, oty, pos, after, guard⟩).run P w = .ok (.value v) w := by
  simp only [execOp, resolve, Sem.run_bind, Sem.run_pure, Result.andThen_ok, invoke]
  exact hb

theorem q_len {args : Array Operand} {argTypes : Array TypeId} (h : qLen args.toList argTypes.toList P t tmps oty K = true) :
    ∃ v, K v = true ∧ QV P t tmps ⟨dst, .call ⟨.builtin .len, args, argTypes⟩, oty, pos, after, guard⟩ v := by
  unfold qLen at h
  split at h
  · rename_i x ty ea et
    have ea : args = #[x] := by rw [← ea]
    have et : argTypes = #[ty] := by rw [← et]
    subst ea; subst et
    obtain ⟨xv, h, hx⟩ := evK_ev (x := x) h
    obtain ⟨d, hd, h⟩ := undK_spec h
    unfold lenK at h
    have ex : ∀ (ρ : Ren) (a : Act), OpsR ρ tmps a (Op.call ⟨.builtin .len, #[x], #[ty]⟩).operands → VR ρ xv (a.eval x) := fun ρ a E => E x _ (by simp [Op.operands, Call.operands]) hx
    split at h
    · refine ⟨_, h, fun B ρ nx w a R E => ⟨_, builtin_run ?_, .lit _ rfl⟩⟩
      obtain ⟨a', q, e⟩ := (ex ρ a E).slice_len
      simp [builtin, Builtin.len_, e, run_underlying hd, goInt]
    · refine ⟨_, h, fun B ρ nx w a R E => ⟨_, builtin_run ?_, .lit _ rfl⟩⟩
      have e := (ex ρ a E).string_inv
      simp [builtin, Builtin.len_, e, run_underlying hd, goInt]
    · refine ⟨_, h, fun B ρ nx w a R E => ⟨_, builtin_run ?_, .lit _ rfl⟩⟩
      simp [builtin, Builtin.len_, run_underlying hd, goInt]
    · refine ⟨_, h, fun B ρ nx w a R E => ⟨_, builtin_run ?_, .lit _ rfl⟩⟩
      have e := VR.lit0_eq rfl (ex ρ a E)
      simp [builtin, Builtin.len_, e, run_underlying hd, goInt]
    · split at h
      · rename_i es clock hg
        rw [llen_eq] at h
        refine ⟨_, h, fun B ρ nx w a R E => ⟨_, builtin_run ?_, .lit _ rfl⟩⟩
        obtain ⟨c, k, hw, hr⟩ := (ex ρ a E).map_inv
        obtain ⟨o, ho, hb⟩ := R.blk _ _ c k hg hr
        cases o <;> first | exact hb.elim | skip
        rename_i fs clock'
        obtain ⟨rfl, he⟩ := hb
        have hl : ∀ {es fs : List MapEntry}, ERs ρ es fs → es.length = fs.length := by
          intro es fs h
          induction h with
          | nil => rfl
          | cons _ _ _ _ _ _ _ _ _ ih => simp [ih]
        have := hl he
        simp [builtin, Builtin.len_, hw, run_underlying hd, goInt, getObj, Sem.run, ho, this]
      · exact absurd h Bool.false_ne_true
    · exact absurd h Bool.false_ne_true
  · exact absurd h Bool.false_ne_true

theorem q_cap {args : Array Operand} {argTypes : Array TypeId} (h : qCap args.toList argTypes.toList P t tmps oty K = true) :
    ∃ v, K v = true ∧ QV P t tmps ⟨dst, .call ⟨.builtin .cap, args, argTypes⟩, oty, pos, after, guard⟩ v := by
  unfold qCap at h
  split at h
  · rename_i x ty ea et
    have ea : args = #[x] := by rw [← ea]
    have et : argTypes = #[ty] := by rw [← et]
    subst ea; subst et
    obtain ⟨xv, h, hx⟩ := evK_ev (x := x) h
    obtain ⟨d, hd, h⟩ := undK_spec h
    have ex : ∀ (ρ : Ren) (a : Act), OpsR ρ tmps a (Op.call ⟨.builtin .cap, #[x], #[ty]⟩).operands → VR ρ xv (a.eval x) := fun ρ a E => E x _ (by simp [Op.operands, Call.operands]) hx
    split at h
    · obtain ⟨hc, h⟩ := boolK_t h
      have hc := ble_false hc
      refine ⟨_, h, fun B ρ nx w a R E => ⟨_, builtin_run ?_, .lit _ rfl⟩⟩
      obtain ⟨a', e⟩ := (ex ρ a E).slice_known hc
      simp [builtin, Builtin.cap_, e, run_underlying hd, goInt]
    · exact absurd h Bool.false_ne_true
  · exact absurd h Bool.false_ne_true

theorem args_eq {ρ : Ren} {args : Array Operand} {vs : List Value} {a : Act} (hl : vs.length = args.toList.length)
    (hv : ∀ (i : Nat) (x : Operand) (v : Value), args.toList[i]? = some x → vs[i]? = some v → Ev tmps x v) (E : ∀ x v, x ∈ args.toList → Ev tmps x v → VR ρ v (a.eval x)) (hlit : allLit0 vs = true) :
    args.map a.eval = ⟨vs⟩ := by
  rw [arr_map, VRs.lit0_eq (evs_VRs hl hv E) ((allLit0_iff _).1 hlit)]

theorem q_min {args : Array Operand} {argTypes : Array TypeId} (h : qMin args argTypes P t tmps oty K = true) :
    ∃ v, K v = true ∧ QV P t tmps ⟨dst, .call ⟨.builtin .min, args, argTypes⟩, oty, pos, after, guard⟩ v := by
  obtain ⟨vs, h, hl, hv⟩ := evsK_ev (xs := args.toList) h
  obtain ⟨hlit, h⟩ := boolK_f h
  obtain ⟨r, hr, hlr, h⟩ := pureVK_spec h
  refine ⟨r, h, fun B ρ nx w a R E => ⟨r, builtin_run ?_, VR.lits r hlr⟩⟩
  rw [args_eq (ρ := ρ) hl hv (fun x v hx hv => E x v (by simp [Op.operands, Call.operands]; simpa using hx) hv) hlit]
  simp [builtin, hr]
theorem q_max {args : Array Operand} {argTypes : Array TypeId} (h : qMax args argTypes P t tmps oty K = true) :
    ∃ v, K v = true ∧ QV P t tmps ⟨dst, .call ⟨.builtin .max, args, argTypes⟩, oty, pos, after, guard⟩ v := by
  obtain ⟨vs, h, hl, hv⟩ := evsK_ev (xs := args.toList) h
  obtain ⟨hlit, h⟩ := boolK_f h
  obtain ⟨r, hr, hlr, h⟩ := pureVK_spec h
  refine ⟨r, h, fun B ρ nx w a R E => ⟨r, builtin_run ?_, VR.lits r hlr⟩⟩
  rw [args_eq (ρ := ρ) hl hv (fun x v hx hv => E x v (by simp [Op.operands, Call.operands]; simpa using hx) hv) hlit]
  simp [builtin, hr]

theorem quiet_sound {o : Oper} (h : quietK P t tmps o K = true) : ∃ v, K v = true ∧ QV P t tmps o v := by
  obtain ⟨dst, op, oty, pos, after, guard⟩ := o
  cases op with
  | move x => exact q_move h
  | pick c a b => exact q_pick h
  | load ty x => exact q_load h
  | nilCheck x => exact q_nilCheck h
  | binOp op ty x y yt => exact q_binOp h
  | unOp op ty x => exact q_unOp h
  | convert s d x => exact q_convert h
  | makeInterface ty x => exact q_makeInterface h
  | makeFunc fn a b => exact q_makeFunc h
  | fieldAddr s x f => exact q_fieldAddr h
  | field s x f => exact q_field h
  | indexAddr s x f => exact q_indexAddr h
  | index s x f => exact q_index h
  | lookup s x f ok => exact q_lookup h
  | slice ty x lo hi mx => exact q_slice h
  | extract x i => exact q_extract h
  | build ty parts => exact q_build h
  | entry x => exact q_entry h
  | typeAssert x xt as ok => exact q_typeAssert h
  | call c =>
    obtain ⟨callee, args, argTypes⟩ := c
    cases callee with
    | builtin b =>
      cases b with
      | len => exact q_len h
      | cap => exact q_cap h
      | min => exact q_min h
      | max => exact q_max h
      | _ => exact absurd h Bool.false_ne_true
    | _ => exact absurd h Bool.false_ne_true
  | _ => exact absurd h Bool.false_ne_true
end ops
end Go.Abs

/-! ## Operations that make a block of their own and do nothing else. -/
namespace Go.Abs
open Go
open Go.RowKit (Below)
set_option linter.unusedVariables false
set_option linter.unusedSimpArgs false

def Ren.put (ρ : Ren) (b : Nat) (x : Nat × Nat) : Ren := fun i => if i = b then some x else ρ i
theorem Ren.put_le {ρ : Ren} {b : Nat} {x : Nat × Nat} (h : ρ b = none) : Ren.le ρ (ρ.put b x) := fun i y e => by
  unfold Ren.put
  split
  · rename_i hi; subst hi; rw [h] at e; cases e
  · exact e
theorem Ren.put_self (ρ : Ren) (b : Nat) (x : Nat × Nat) : (ρ.put b x) b = some x := by simp [Ren.put]
theorem Ren.put_ne {ρ : Ren} {b i : Nat} {x : Nat × Nat} (h : i ≠ b) : (ρ.put b x) i = ρ i := by simp [Ren.put, h]

/-- A world that has one block more. -/
structure Grown1 (w w' : World) (o : Obj) : Prop where
  heap : w'.heap = w.heap.push o
  os : w'.os = w.os
  tape : w'.tape = w.tape
  output : w'.output = w.output
theorem Grown1.at {w w' : World} {o : Obj} (h : Grown1 w w' o) : w'.heap[w.heap.size]? = some o := by rw [h.heap]; simp
theorem Grown1.old {w w' : World} {o : Obj} (h : Grown1 w w' o) {c : Nat} (hc : c < w.heap.size) : w'.heap[c]? = w.heap[c]? := by
  rw [h.heap, Array.getElem?_push, if_neg (by omega)]
theorem Grown1.size {w w' : World} {o : Obj} (h : Grown1 w w' o) : w'.heap.size = w.heap.size + 1 := by rw [h.heap]; simp
theorem Grown1.below {w w' : World} {o : Obj} (h : Grown1 w w' o) {B : Nat} (hB : B ≤ w.heap.size) : Below B w w' :=
  ⟨h.os, h.tape, h.output, by rw [h.size]; omega, fun k hk => h.old (by omega)⟩

/-- What a block-making operation answers. -/
def AV (P : Program) (nx : Nat) (tmps : TM) (o : Oper) (blk : Blk) (v : Value) : Prop :=
  isRo blk = false ∧ ∀ (ρ : Ren) (w : World) (a : Act), ρ nx = none → (∀ g, g < NG → ρ g = some (g, 0)) → OpsR ρ tmps a o.op.operands →
    ∃ v' w' obj k, (execOp a.eval o).run P w = .ok (.value v') w' ∧ Grown1 w w' obj ∧ BR P (ρ.put nx (w.heap.size, k)) k blk obj ∧ VR (ρ.put nx (w.heap.size, k)) v v'

theorem Rep.grow {P : Program} {B : Nat} {ρ : Ren} {t t' : Tr} {nx nx' b k : Nat} {w w' : World} {obj : Obj} {blk : Blk} (R : Rep P B ρ t nx w) (hw : Grown1 w w' obj) (hb : ρ b = none) (hbn : b < nx') (hnx : nx ≤ nx') (hnl : nx' ≤ 4096)
    (ht : ∀ b', b' < 4096 → b' ≠ b → Tr.get D t' b' = Tr.get D t b') (hg : Tr.get D t' b = some blk) (hB : BR P (ρ.put b (w.heap.size, k)) k blk obj) (hro : isRo blk = false) :
    Rep P B (ρ.put b (w.heap.size, k)) t' nx' w' := by
  have lt : ∀ {i x}, ρ i = some x → i < 4096 := fun {i x} h => by
    rcases Nat.lt_or_ge i nx with h' | h'
    · have := R.nxl; omega
    · rw [R.new i h'] at h; cases h
  have hle : Ren.le ρ (ρ.put b (w.heap.size, k)) := Ren.put_le hb
  have oldc : ∀ {i x c q}, Tr.get D t i = some x → ρ i = some (c, q) → c < w.heap.size := fun {i x c q} h1 h2 => by
    obtain ⟨o, ho, _⟩ := R.blk i x c q h1 h2
    exact (Array.getElem?_eq_some_iff.1 ho).1
  have sp : ∀ {i x c q}, Tr.get D t' i = some x → (ρ.put b (w.heap.size, k)) i = some (c, q) → (i = b ∧ x = blk ∧ c = w.heap.size ∧ q = k) ∨ (i ≠ b ∧ Tr.get D t i = some x ∧ ρ i = some (c, q)) := by
    intro i x c q h1 h2
    by_cases hi : i = b
    · subst hi
      rw [Ren.put_self] at h2
      rw [hg] at h1
      cases h1; cases h2
      exact .inl ⟨rfl, rfl, rfl, rfl⟩
    · rw [Ren.put_ne hi] at h2
      rw [ht i (lt h2) hi] at h1
      exact .inr ⟨hi, h1, h2⟩
  refine ⟨?_, ?_, ?_, ?_, ?_, ?_, ?_, hnl, ?_⟩
  · intro i x c q h1 h2
    rcases sp h1 h2 with ⟨_, rfl, rfl, rfl⟩ | ⟨hi, h1, h2⟩
    · exact ⟨obj, hw.at, hB⟩
    · obtain ⟨o, ho, hbr⟩ := R.blk i x c q h1 h2
      exact ⟨o, by rw [hw.old (oldc h1 h2)]; exact ho, hbr.mono hle⟩
  · intro i i' x x' c q q' h1 h2 r1 r2 e1 e2
    rcases sp h1 e1 with ⟨rfl, rfl, rfl, rfl⟩ | ⟨hi, h1, e1⟩ <;> rcases sp h2 e2 with ⟨hi', hx', hc', hq'⟩ | ⟨hi', h2, e2⟩
    · exact hi'.symm
    · have := oldc h2 e2; omega
    · have := oldc h1 e1; omega
    · exact R.inj i i' x x' c q q' h1 h2 r1 r2 e1 e2
  · intro i x c q h1 r1 e1
    rcases sp h1 e1 with ⟨rfl, rfl, rfl, rfl⟩ | ⟨hi, h1, e1⟩
    · exact R.base
    · exact R.low i x c q h1 r1 e1
  · intro i x c q h1 r1 e1
    rcases sp h1 e1 with ⟨rfl, rfl, rfl, rfl⟩ | ⟨hi, h1, e1⟩
    · rw [hro] at r1; cases r1
    · exact R.ro i x c q h1 r1 e1
  · intro g hgl
    exact hle _ _ (R.glob g hgl)
  · intro i hi
    rw [Ren.put_ne (by omega)]
    exact R.new i (by omega)
  · exact Nat.le_trans R.ng hnx
  · rw [hw.size]; have := R.base; omega

theorem made_eq (zs : Array Value) (n : Nat) (hz : 0 < zs.size) : ((Array.range (n * zs.size)).map fun i => zs[i % zs.size]!).toList = rep n zs.toList := by
  apply List.ext_getElem?
  intro i
  by_cases hi : i < n * zs.size
  · rw [getElem?_rep zs.toList n i (by simpa using hi)]
    have hm : i % zs.size < zs.size := Nat.mod_lt _ hz
    simp [hi, hm, Array.getElem!_eq_getD, Array.getD]
  · rw [List.getElem?_eq_none (by simp; omega), List.getElem?_eq_none (by rw [length_rep]; simp; omega)]
theorem zeros_row (zs z0 : Array Value) (n s : Nat) (hs : zs.size = s) (h0 : z0 = if n * s = 0 then #[] else zs) : ((Array.range (n * s)).map fun j => z0[j % z0.size]!).toList = rep n zs.toList := by
  by_cases hn : n * s = 0
  · have hr : rep n zs.toList = [] := by
      apply List.eq_nil_of_length_eq_zero
      rw [length_rep]; simp [hs, hn]
    rw [hr, hn]; simp
  · rw [if_neg hn] at h0
    subst h0; subst hs
    refine made_eq z0 n ?_
    rcases Nat.eq_zero_or_pos z0.size with h1 | h1
    · rw [h1] at hn; simp at hn
    · exact h1
theorem cellsOf_eq {P : Program} {e : TypeId} {i : TypeInfo} (h : P.info? e = some i) : P.cellsOf e = i.size := by simp [Program.cellsOf, h]

theorem BR.row {P : Program} {ρ : Ren} {k : Nat} {xs : List Value} {arr : Array Value} {e : TypeId} (h : VRs ρ xs arr.toList) : BR P ρ k (.cells xs e false) (.cells arr e) :=
  ⟨rfl, .inl rfl, ⟨arr.toList, [], by simp, h, fun _ => rfl⟩, fun h => by cases h⟩

section ops
variable {P : Program} {nx : Nat} {tmps : TM} {K : Blk → Value → Bool} {dst : Option Tmp} {oty : TypeId} {pos : String} {after : Array Edge} {guard : Option (Nat × Bool)}

theorem grown_alloc (w : World) (o : Obj) : Grown1 w { w with heap := w.heap.push o } o := ⟨rfl, rfl, rfl, rfl⟩

theorem a_alloc {e : TypeId} (h : allocK P nx tmps ⟨dst, .alloc e, oty, pos, after, guard⟩ K = true) : ∃ b v, K b v = true ∧ AV P nx tmps ⟨dst, .alloc e, oty, pos, after, guard⟩ b v := by
  have h : (zeroK P e fun zs => K (.cells zs e false) (.pointer (some ⟨nx, 0, none⟩))) = true := h
  obtain ⟨i, z, hi, hz, hl, h⟩ := zeroK_spec h
  refine ⟨_, _, h, rfl, fun ρ w a hn hgl E => ⟨.pointer (some ⟨w.heap.size, 0, none⟩), _, _, 0, ?_, grown_alloc w (.cells z.cells e), BR.row (VRs.lits _ hl), .ptr _ _ _ 0 (Ren.put_self _ _ _)⟩⟩
  simp [execOp, Instr.alloc, zeroValue, typeInfo, hi, hz, newVar, newRow]

theorem a_box {e : TypeId} {x : Operand} (h : allocK P nx tmps ⟨dst, .box e x, oty, pos, after, guard⟩ K = true) : ∃ b v, K b v = true ∧ AV P nx tmps ⟨dst, .box e x, oty, pos, after, guard⟩ b v := by
  obtain ⟨xv, h, hx⟩ := evK_ev (x := x) h
  refine ⟨_, _, h, rfl, fun ρ w a hn hgl E => ⟨.pointer (some ⟨w.heap.size, 0, none⟩), _, _, 0, ?_, grown_alloc w (.cells (a.eval x).cells e), BR.row ((E x _ (by simp [Op.operands]) hx).cells.mono (Ren.put_le hn)), .ptr _ _ _ 0 (Ren.put_self _ _ _)⟩⟩
  simp [execOp, Instr.box, newVar, newRow]

theorem a_buildSlice {ty : TypeId} {len : Nat} {parts : Array (Nat × Operand)} (h : allocK P nx tmps ⟨dst, .buildSlice ty len parts, oty, pos, after, guard⟩ K = true) :
    ∃ b v, K b v = true ∧ AV P nx tmps ⟨dst, .buildSlice ty len parts, oty, pos, after, guard⟩ b v := by
  obtain ⟨d, hd, h⟩ := undK_spec (P := P) (t := ty) h
  split at h
  · rename_i e
    obtain ⟨i, z, hi, hz, hl, h⟩ := zeroK_spec h
    rw [lrep_eq] at h
    obtain ⟨i', hi', h⟩ := infK_spec h
    obtain rfl : i' = i := Option.some.inj (hi'.symm.trans hi)
    obtain ⟨hc, h⟩ := boolK_f h
    simp only [Bool.and_eq_true] at hc
    obtain ⟨⟨hc1, hc2⟩, hc3⟩ := hc
    have hc1 := Nat.le_of_ble_eq_true hc1
    have hc2 := Nat.eq_of_beq_eq_true hc2
    have hc3 := Nat.le_of_ble_eq_true hc3
    obtain ⟨ps, h, hps⟩ := evpK_ev (xs := parts.toList) h
    split at h
    · rename_i cells hf
      have h := fL_spec _ _ h
      refine ⟨_, _, h, rfl, fun ρ w a hn hgl E => ?_⟩
      have hp := hps ρ a fun x v hx hv => E x v (by simpa [Op.operands] using hx) hv
      have hzs : z.cells.size = i'.size := by simpa using hc2
      obtain ⟨z0, hz0⟩ : ∃ z0, z0 = if len * i'.size = 0 then #[] else z.cells := ⟨_, rfl⟩
      have hrow : VRs ρ (rep len z.cells.toList) ((Array.range (len * i'.size)).map fun j => z0[j % z0.size]!).toList := by
        rw [zeros_row z.cells z0 len i'.size hzs hz0]
        exact VRs.lits _ fun x hx => hl x (mem_rep hx)
      obtain ⟨r, hfr, hr⟩ := fill_rel (cs := ⟨rep len z.cells.toList⟩) hp hrow hf
      refine ⟨.slice (some ⟨w.heap.size, 0, none⟩) len len, _, _, 0, ?_, grown_alloc w (.cells r e), BR.row (hr.mono (Ren.put_le hn)), .slice _ _ _ 0 _ _ (Ren.put_self _ _ _) (by simp only [capU]; omega)⟩
      have hgt : ¬ len * i'.size > 2 ^ 24 := by have : len * i'.size ≤ 16777216 := hc1; omega
      have key : (Instr.buildSlice ty len ⟨parts.toList.map fun p => (p.1, a.eval p.2)⟩).run P w = .ok (.slice (some ⟨w.heap.size, 0, none⟩) len len) { w with heap := w.heap.push (.cells r e) } := by
        unfold Instr.buildSlice
        simp only [Sem.run_bind, run_underlying hd, Result.andThen_ok, sizeOf, typeInfo, run_program, hi, Sem.run_pure]
        have hzv : (zeroValue e).run P w = .ok z w := by simp [zeroValue, typeInfo, hi, hz]
        rw [Sem.run_ite, if_neg hgt, Sem.run_ite]
        by_cases h0 : len * i'.size = 0
        · rw [if_pos h0] at hz0 ⊢
          subst hz0
          simp only [Sem.run_bind, Sem.run_pure, Result.andThen_ok, hfr]
          simp [newRow]
        · rw [if_neg h0] at hz0 ⊢
          subst hz0
          simp only [Sem.run_bind, hzv, Sem.run_pure, Result.andThen_ok, hfr]
          simp [newRow]
      simp only [execOp, arr_map, Sem.run_bind, key, Result.andThen_ok, Sem.run_pure]
    · exact absurd h Bool.false_ne_true
  · exact absurd h Bool.false_ne_true

theorem a_makeMap {ty : TypeId} {r : Option Operand} (h : allocK P nx tmps ⟨dst, .makeMap ty r, oty, pos, after, guard⟩ K = true) :
    ∃ b v, K b v = true ∧ AV P nx tmps ⟨dst, .makeMap ty r, oty, pos, after, guard⟩ b v := by
  cases r with
  | some _ => exact absurd h Bool.false_ne_true
  | none =>
    refine ⟨_, _, h, rfl, fun ρ w a hn hgl E => ⟨.map (some w.heap.size), _, _, 0, ?_, grown_alloc w (.map #[] 0), ⟨rfl, .nil⟩, .map _ _ 0 (Ren.put_self _ _ _)⟩⟩
    simp [execOp, Instr.makeMap]

theorem a_makeSlice {ty : TypeId} {l c : Operand} (h : allocK P nx tmps ⟨dst, .makeSlice ty l c, oty, pos, after, guard⟩ K = true) :
    ∃ b v, K b v = true ∧ AV P nx tmps ⟨dst, .makeSlice ty l c, oty, pos, after, guard⟩ b v := by
  obtain ⟨lv, h, hlv⟩ := evK_ev (x := l) h
  obtain ⟨cv, h, hcv⟩ := evK_ev (x := c) h
  obtain ⟨lk, ln, elv, h1⟩ := natK_spec h
  obtain ⟨ck, cn, ecv, h2⟩ := natK_spec h1
  clear h h1
  subst elv; subst ecv
  obtain ⟨d, hd, h⟩ := undK_spec h2
  split at h
  · rename_i e
    obtain ⟨i, hi, h⟩ := infK_spec h
    obtain ⟨hc, h⟩ := boolK_f h
    simp only [Bool.and_eq_true] at hc
    obtain ⟨⟨hc1, hc2⟩, hc3⟩ := hc
    have hc1 := Nat.le_of_ble_eq_true hc1
    have hc2 := Nat.le_of_ble_eq_true hc2
    have hc3 := Nat.le_of_ble_eq_true hc3
    obtain ⟨i', z, hi', hz, hl, h⟩ := zeroK_spec h
    obtain rfl : i' = i := Option.some.inj (hi'.symm.trans hi)
    obtain ⟨hzs, h⟩ := boolK_f h
    have hzs := Nat.eq_of_beq_eq_true hzs
    have hzs : z.cells.size = i'.size := by simpa using hzs
    rw [lrep_eq] at h
    refine ⟨_, _, h, rfl, fun ρ w a hn hgl E => ?_⟩
    have el := (E l _ (by simp [Op.operands]) hlv).int_inv
    have ec := (E c _ (by simp [Op.operands]) hcv).int_inv
    have wc : IntKind.i64.wrap (Int.ofNat cn) = Int.ofNat cn := wrap_i64 (Int.le_trans (by decide) (Int.natCast_nonneg _)) (by have : (cn : Int) ≤ 4294967296 := Int.ofNat_le.2 hc3; exact Int.le_trans this (by decide))
    have wl : IntKind.i64.wrap (Int.ofNat ln) = Int.ofNat ln := wrap_i64 (Int.le_trans (by decide) (Int.natCast_nonneg _)) (by have : (ln : Int) ≤ 4294967296 := Int.ofNat_le.2 (Nat.le_trans hc1 hc3); exact Int.le_trans this (by decide))
    have hb : (i'.bytes : Int) * Int.ofNat cn ≤ 2 ^ 48 := by
      have h1 : ((cn * i'.bytes : Nat) : Int) ≤ 140737488355328 := Int.ofNat_le.2 hc2
      have h2 : (i'.bytes : Int) * Int.ofNat cn = ((cn * i'.bytes : Nat) : Int) := by rw [Int.natCast_mul, Int.mul_comm]; rfl
      rw [h2]; exact Int.le_trans h1 (by decide)
    obtain ⟨z0, hz0⟩ : ∃ z0, z0 = if cn * i'.size = 0 then #[] else z.cells := ⟨_, rfl⟩
    refine ⟨.slice (some ⟨w.heap.size, 0, none⟩) ln cn, _, _, 0, ?_, grown_alloc w (.cells ((Array.range (cn * i'.size)).map fun j => z0[j % z0.size]!) e),
      BR.row (by rw [zeros_row z.cells z0 cn i'.size hzs hz0]; exact VRs.lits _ fun x hx => hl x (mem_rep hx)), .slice _ _ _ 0 _ _ (Ren.put_self _ _ _) (by simp only [capU]; omega)⟩
    have hbad : ¬ ((decide (Int.ofNat cn < 0) || decide ((i'.bytes : Int) * Int.ofNat cn > 2 ^ 48)) || decide (Int.ofNat ln < 0) || decide (Int.ofNat ln > Int.ofNat cn)) = true := by
      have a1 : ¬ Int.ofNat cn < 0 := Int.not_lt.2 (Int.natCast_nonneg _)
      have a2 : ¬ Int.ofNat ln < 0 := Int.not_lt.2 (Int.natCast_nonneg _)
      have a3 : ¬ Int.ofNat ln > Int.ofNat cn := Int.not_lt.2 (Int.ofNat_le.2 hc1)
      have a4 : ¬ (i'.bytes : Int) * Int.ofNat cn > 2 ^ 48 := Int.not_lt.2 hb
      simp only [decide_eq_false a1, decide_eq_false a2, decide_eq_false a3, decide_eq_false a4]
      decide
    have key : (Instr.makeSlice ty (.int lk (Int.ofNat ln)) (.int ck (Int.ofNat cn))).run P w = .ok (.slice (some ⟨w.heap.size, 0, none⟩) ln cn)
        { w with heap := w.heap.push (.cells ((Array.range (cn * i'.size)).map fun j => z0[j % z0.size]!) e) } := by
      unfold Instr.makeSlice
      simp only [Sem.run_bind, run_underlying hd, Result.andThen_ok, asInt, asIntOf, typeInfo, run_program, hi, Sem.run_pure, wc, wl, Sem.run_ite]
      rw [if_neg hbad]
      simp only [Sem.run_bind, run_askRoom, Result.andThen_ok, sizeOf, typeInfo, run_program, hi, Sem.run_pure]
      have e1 : (Int.ofNat cn).toNat = cn := rfl
      have e2 : (Int.ofNat ln).toNat = ln := rfl
      have hzv : (zeroValue e).run P w = .ok z w := by simp [zeroValue, typeInfo, hi, hz]
      rw [e1, e2]
      by_cases h0 : cn * i'.size = 0
      · rw [if_pos h0] at hz0 ⊢
        subst hz0
        simp [newRow]
      · rw [if_neg h0] at hz0 ⊢
        subst hz0
        simp [newRow, hzv]
    simp only [execOp, el, ec, Sem.run_bind, key, Result.andThen_ok, Sem.run_pure]
  · exact absurd h Bool.false_ne_true

theorem freeze_push (w : World) (arr : Array Value) (e : TypeId) :
    (World.freeze { w with heap := w.heap.push (.cells arr e) } { block := w.heap.size, off := arr.size } 1).heap = w.heap.push (.cells arr e (arr.size, arr.size + 1)) := by
  simp only [World.freeze]
  rw [if_neg (by decide)]
  apply Array.ext_getElem?
  intro i
  simp only [Array.getElem?_modify, Array.getElem?_push]
  by_cases hi : i = w.heap.size
  · subst hi; simp
  · simp only [hi, if_false]
    rw [if_neg (by omega)]

theorem a_convert {src cdst : TypeId} {x : Operand} (h : allocK P nx tmps ⟨dst, .convert src cdst x, oty, pos, after, guard⟩ K = true) :
    ∃ b v, K b v = true ∧ AV P nx tmps ⟨dst, .convert src cdst x, oty, pos, after, guard⟩ b v := by
  obtain ⟨xv, h, hx⟩ := evK_ev (x := x) h
  obtain ⟨sd, hs, h⟩ := undK_spec h
  obtain ⟨d, hd, h⟩ := undK_spec h
  split at h
  · rename_i e s hz1 hz2
    obtain ⟨ed, he, h⟩ := undK_spec h
    split at h
    · obtain ⟨i, hi, h⟩ := infK_spec h
      obtain ⟨hc, h⟩ := boolK_f h
      simp only [Bool.and_eq_true] at hc
      obtain ⟨hc1, hc2⟩ := hc
      have hc1 := Nat.eq_of_beq_eq_true hc1
      have hc2 := Nat.le_of_ble_eq_true hc2
      refine ⟨_, _, h, rfl, fun ρ w a hn hgl E => ?_⟩
      have ex := (E x _ (by simp [Op.operands]) hx).string_inv
      obtain ⟨cap, hcap⟩ : ∃ cap, cap = Question.cut (.appendCap s.size 0 e) (w.tape w.drawn (.appendCap s.size 0 e)) := ⟨_, rfl⟩
      have hge : s.size ≤ cap := by rw [hcap]; simp [Question.cut]
      have hle : cap ≤ maxLen := by
        have hlt := Nat.mod_lt (w.tape w.drawn (.appendCap s.size 0 e)) (show 0 < 2 ^ 63 - s.size by omega)
        rw [hcap]; simp only [Question.cut, maxLen]; omega
      obtain ⟨arr, harr⟩ : ∃ arr : Array Value, arr = (s.data.map fun b => Value.int .u8 b.toNat) ++ Array.replicate (cap - s.size) (.int .u8 0) := ⟨_, rfl⟩
      have hsz : arr.size = cap := by rw [harr]; simp; have : s.data.size = s.size := rfl; omega
      refine ⟨.slice (some ⟨w.heap.size, 0, none⟩) s.size cap, World.freeze { w.drew with heap := w.drew.heap.push (.cells arr e) } { block := w.drew.heap.size, off := arr.size } 1, .cells arr e (arr.size, arr.size + 1), cap, ?_, ?_, ?_, ?_⟩
      · have key : (Conv.stringToBytes e s).run P w = .ok (.slice (some ⟨w.heap.size, 0, none⟩) s.size cap) (World.freeze { w.drew with heap := w.drew.heap.push (.cells arr e) } { block := w.drew.heap.size, off := arr.size } 1) := by
          have hch : (choose (.appendCap s.size 0 e)).run P w = .ok cap w.drew := by rw [run_choose, hcap]; rfl
          simp only [Conv.stringToBytes, Sem.run_bind, hch, Result.andThen_ok, newRow, run_newObj, Sem.run_pure, markStringish, run_shape, ← harr]
          have hsh : World.shape? { w.drew with heap := w.drew.heap.push (.cells arr e) } w.drew.heap.size = some (e, arr.size) := by
            have hp : (w.drew.heap.push (Obj.cells arr e))[w.drew.heap.size]? = some (.cells arr e) := Array.getElem?_push_size
            simp only [World.shape?, hp]
          simp only [hsh]
          rfl
        have kc : (convert src cdst (.string s)).run P w = (Conv.stringToBytes e s).run P w := by simp [convert, run_underlying hs, run_underlying hd, run_underlying he]
        simp only [execOp, ex, Sem.run_bind, kc, key, Result.andThen_ok, Sem.run_pure]
      · exact ⟨freeze_push w.drew arr e, rfl, rfl, rfl⟩
      · refine ⟨rfl, .inr rfl, ⟨s.data.toList.map fun b => Value.int .u8 b.toNat, List.replicate (cap - s.size) (.int .u8 0), by rw [harr, Array.toList_append, Array.toList_map, Array.toList_replicate], ?_, fun h => by cases h⟩, fun _ => by rw [hsz, cellsOf_eq hi, hc1, Nat.mul_one]⟩
        exact VRs.lits _ fun z hz => by obtain ⟨b, _, rfl⟩ := List.mem_map.1 hz; rfl
      · exact .sliceU _ _ _ cap _ _ (Ren.put_self _ _ _) hge hle (fun _ => rfl)
    · exact absurd h Bool.false_ne_true
  · exact absurd h Bool.false_ne_true

theorem alloc_sound {o : Oper} (h : allocK P nx tmps o K = true) : ∃ b v, K b v = true ∧ AV P nx tmps o b v := by
  obtain ⟨dst, op, oty, pos, after, guard⟩ := o
  cases op with
  | alloc e => exact a_alloc h
  | box e x => exact a_box h
  | buildSlice ty len parts => exact a_buildSlice h
  | makeSlice ty l c => exact a_makeSlice h
  | makeMap ty r => exact a_makeMap h
  | convert s d x => exact a_convert h
  | _ => exact absurd h Bool.false_ne_true
end ops
end Go.Abs

/-! ## Effects that call nothing: what they do to the state stands for what the model does to the world. -/
namespace Go.Abs
open Go
open Go.RowKit (Below)
set_option linter.unusedVariables false
set_option linter.unusedSimpArgs false

/-- A world with one block another. -/
structure Upd1 (w w' : World) (c : Nat) (o : Obj) : Prop where
  at_ : w'.heap[c]? = some o
  other : ∀ i, i ≠ c → w'.heap[i]? = w.heap[i]?
  size : w'.heap.size = w.heap.size
  os : w'.os = w.os
  tape : w'.tape = w.tape
  output : w'.output = w.output
theorem Upd1.below {w w' : World} {c : Nat} {o : Obj} (h : Upd1 w w' c o) {B : Nat} (hB : B ≤ c) : Below B w w' :=
  ⟨h.os, h.tape, h.output, by rw [h.size]; exact Nat.le_refl _, fun k hk => h.other k (by omega)⟩

variable {P : Program} {B : Nat} {ρ : Ren} {t : Tr} {nx : Nat} {w w' : World}

theorem Rep.lt (R : Rep P B ρ t nx w) {i : Nat} {x : Nat × Nat} (h : ρ i = some x) : i < 4096 := by
  rcases Nat.lt_or_ge i nx with h' | h'
  · have := R.nxl; omega
  · rw [R.new i h'] at h; cases h
theorem pow8 : 8 ^ D = 4096 := by decide
theorem Rep.get_ne (R : Rep P B ρ t nx w) {b i : Nat} {x : Nat × Nat} {v : Option Blk} (hb : b < 4096) (h : ρ i = some x) (hi : i ≠ b) : Tr.get D (Tr.set D t b v) i = Tr.get D t i :=
  get_set_ne D t b i v (by rw [pow8]; exact hb) (by rw [pow8]; exact R.lt h) hi

/-- Another content of a block. -/
theorem Rep.upd (R : Rep P B ρ t nx w) {b c k : Nat} {x x' : Blk} {o : Obj} (hg : Tr.get D t b = some x) (hx : isRo x = false) (hx' : isRo x' = false) (hr : ρ b = some (c, k)) (hu : Upd1 w w' c o) (hb : BR P ρ k x' o) :
    Rep P B ρ (Tr.set D t b (some x')) nx w' := by
  have hbl := R.lt hr
  have sp : ∀ {i y d q}, Tr.get D (Tr.set D t b (some x')) i = some y → ρ i = some (d, q) → (i = b ∧ y = x' ∧ d = c ∧ q = k) ∨ (i ≠ b ∧ Tr.get D t i = some y) := by
    intro i y d q h1 h2
    by_cases hi : i = b
    · subst hi
      rw [get_set_same] at h1
      rw [hr] at h2
      cases h1; cases h2
      exact .inl ⟨rfl, rfl, rfl, rfl⟩
    · rw [R.get_ne hbl h2 hi] at h1
      exact .inr ⟨hi, h1⟩
  refine ⟨?_, ?_, ?_, ?_, R.glob, R.new, R.ng, R.nxl, by rw [hu.size]; exact R.base⟩
  · intro i y d q h1 h2
    rcases sp h1 h2 with ⟨rfl, rfl, rfl, rfl⟩ | ⟨hi, h1⟩
    · exact ⟨o, hu.at_, hb⟩
    · obtain ⟨o', ho, hbr⟩ := R.blk i y d q h1 h2
      refine ⟨o', ?_, hbr⟩
      rw [hu.other d]
      · exact ho
      · intro e
        subst e
        cases hro : isRo y with
        | false => exact hi (R.inj i b y x d q k h1 hg hro hx h2 hr)
        | true =>
          have := R.ro i y d q h1 hro h2
          have := R.low b x d k hg hx hr
          omega
  · intro i i' y y' d q q' h1 h2 r1 r2 e1 e2
    rcases sp h1 e1 with ⟨hi, _, _, _⟩ | ⟨hi, k1⟩ <;> rcases sp h2 e2 with ⟨hi', _, _, _⟩ | ⟨hi', k2⟩
    · rw [hi, hi']
    · rw [hi] at e1 ⊢; exact R.inj _ _ x y' _ _ _ hg k2 hx r2 e1 e2
    · rw [hi'] at e2 ⊢; exact R.inj _ _ y x _ _ _ k1 hg r1 hx e1 e2
    · exact R.inj _ _ y y' _ _ _ k1 k2 r1 r2 e1 e2
  · intro i y d q h1 r1 e1
    rcases sp h1 e1 with ⟨rfl, rfl, rfl, rfl⟩ | ⟨hi, h1⟩
    · exact R.low _ x _ _ hg hx hr
    · exact R.low i y d q h1 r1 e1
  · intro i y d q h1 r1 e1
    rcases sp h1 e1 with ⟨rfl, rfl, rfl, rfl⟩ | ⟨hi, h1⟩
    · rw [hx'] at r1; cases r1
    · exact R.ro i y d q h1 r1 e1

/-- The same content, otherwise marked. -/
theorem Rep.mark (R : Rep P B ρ t nx w) {b c k : Nat} {x : Blk} {o : Obj} (hg : Tr.get D t b = some x) (hx : isRo x = false) (hr : ρ b = some (c, k)) (hu : Upd1 w w' c o) (hb : BR P ρ k x o) : Rep P B ρ t nx w' := by
  refine ⟨?_, R.inj, R.low, R.ro, R.glob, R.new, R.ng, R.nxl, by rw [hu.size]; exact R.base⟩
  intro i y d q h1 h2
  by_cases hi : i = b
  · subst hi
    rw [hg] at h1; rw [hr] at h2
    cases h1; cases h2
    exact ⟨o, hu.at_, hb⟩
  · obtain ⟨o', ho, hbr⟩ := R.blk i y d q h1 h2
    refine ⟨o', ?_, hbr⟩
    rw [hu.other d]
    · exact ho
    · intro e
      subst e
      cases hro : isRo y with
      | false => exact hi (R.inj i b y x d q k h1 hg hro hx h2 hr)
      | true =>
        have := R.ro i y d q h1 hro h2
        have := R.low b x d k hg hx hr
        omega

/-- A block is given up. -/
theorem Rep.drop (R : Rep P B ρ t nx w) {b : Nat} (hb : b < 4096) : Rep P B ρ (Tr.set D t b none) nx w := by
  have sp : ∀ {i y d q}, Tr.get D (Tr.set D t b none) i = some y → ρ i = some (d, q) → i ≠ b ∧ Tr.get D t i = some y := by
    intro i y d q h1 h2
    by_cases hi : i = b
    · subst hi; rw [get_set_same] at h1; cases h1
    · rw [R.get_ne hb h2 hi] at h1; exact ⟨hi, h1⟩
  exact ⟨fun i y d q h1 h2 => R.blk i y d q (sp h1 h2).2 h2, fun i i' y y' d q q' h1 h2 r1 r2 e1 e2 => R.inj i i' y y' d q q' (sp h1 e1).2 (sp h2 e2).2 r1 r2 e1 e2,
    fun i y d q h1 r1 e1 => R.low i y d q (sp h1 e1).2 r1 e1, fun i y d q h1 r1 e1 => R.ro i y d q (sp h1 e1).2 r1 e1, R.glob, R.new, R.ng, R.nxl, R.base⟩

/-- A block that nothing stands for any more is taken by a new one. -/
theorem Rep.attach (R : Rep P B ρ t nx w) {c k : Nat} {x' : Blk} {o : Obj} (hx' : isRo x' = false) (hnx : nx < 4096) (hfree : ∀ i y q, Tr.get D t i = some y → ρ i = some (c, q) → False) (hc : B ≤ c)
    (hu : Upd1 w w' c o) (hb : BR P (ρ.put nx (c, k)) k x' o) : Rep P B (ρ.put nx (c, k)) (Tr.set D t nx (some x')) (nx + 1) w' := by
  have hn := R.new nx (Nat.le_refl _)
  have hle : Ren.le ρ (ρ.put nx (c, k)) := Ren.put_le hn
  have sp : ∀ {i y d q}, Tr.get D (Tr.set D t nx (some x')) i = some y → (ρ.put nx (c, k)) i = some (d, q) → (i = nx ∧ y = x' ∧ d = c ∧ q = k) ∨ (i ≠ nx ∧ Tr.get D t i = some y ∧ ρ i = some (d, q)) := by
    intro i y d q h1 h2
    by_cases hi : i = nx
    · subst hi
      rw [get_set_same] at h1
      rw [Ren.put_self] at h2
      cases h1; cases h2
      exact .inl ⟨rfl, rfl, rfl, rfl⟩
    · rw [Ren.put_ne hi] at h2
      rw [R.get_ne hnx h2 hi] at h1
      exact .inr ⟨hi, h1, h2⟩
  refine ⟨?_, ?_, ?_, ?_, fun g hg => hle _ _ (R.glob g hg), ?_, by have := R.ng; omega, by omega, by rw [hu.size]; exact R.base⟩
  · intro i y d q h1 h2
    rcases sp h1 h2 with ⟨rfl, rfl, rfl, rfl⟩ | ⟨hi, k1, k2⟩
    · exact ⟨o, hu.at_, hb⟩
    · obtain ⟨o', ho, hbr⟩ := R.blk i y d q k1 k2
      refine ⟨o', ?_, hbr.mono hle⟩
      rw [hu.other d]
      · exact ho
      · intro e; rw [e] at k2; exact hfree i y q k1 k2
  · intro i i' y y' d q q' h1 h2 r1 r2 e1 e2
    rcases sp h1 e1 with ⟨hi, _, hd, _⟩ | ⟨hi, k1, l1⟩ <;> rcases sp h2 e2 with ⟨hi', _, hd', _⟩ | ⟨hi', k2, l2⟩
    · rw [hi, hi']
    · rw [hd] at l2; exact (hfree _ _ _ k2 l2).elim
    · rw [hd'] at l1; exact (hfree _ _ _ k1 l1).elim
    · exact R.inj _ _ y y' _ _ _ k1 k2 r1 r2 l1 l2
  · intro i y d q h1 r1 e1
    rcases sp h1 e1 with ⟨rfl, rfl, rfl, rfl⟩ | ⟨hi, h1, e1⟩
    · exact hc
    · exact R.low i y d q h1 r1 e1
  · intro i y d q h1 r1 e1
    rcases sp h1 e1 with ⟨rfl, rfl, rfl, rfl⟩ | ⟨hi, h1, e1⟩
    · rw [hx'] at r1; cases r1
    · exact R.ro i y d q h1 r1 e1
  · intro i hi
    rw [Ren.put_ne (by omega)]
    exact R.new i (by omega)

/-! Stores. -/
theorem run_storeCells_mark {P : Program} (g o : Nat) (t : TypeId) (fr : Nat × Nat) : ∀ (vs : List Value) (i : Nat) (cur : Array Value) (w : World), w.heap[g]? = some (.cells cur t fr) → okMark fr cur.size → o + i + vs.length ≤ cur.size → (∀ v ∈ vs, v.oneCell' = true) →
    (storeCells ⟨g, o, none⟩ vs i).run P w = .ok () (w.setRow g (cur.toList.take (o + i) ++ vs ++ cur.toList.drop (o + i + vs.length)).toArray)
  | [], i, cur, w, hg, _, _, _ => by
    simp only [storeCells, List.append_nil, List.length_nil, Nat.add_zero, List.take_append_drop, Array.toArray_toList]
    rw [setRow_self w g cur t fr hg]
    rfl
  | v :: rest, i, cur, w, hg, hm, hl, h1 => by
    have hi : o + i < cur.size := by simp at hl; omega
    have hadd : (⟨g, o, none⟩ : Addr).add i = ⟨g, o + i, none⟩ := by unfold Addr.add; split <;> simp_all
    have hcell : w.cell? ⟨g, o + i, none⟩ = some cur[o + i] := by simp [World.cell?, hg, hi]
    have hfro : w.frozen? ⟨g, o + i, none⟩ = false := by
      rcases hm with rfl | rfl
      · simp [World.frozen?, hg]
      · simp [World.frozen?, hg]; omega
    have hst : (store ((⟨g, o, none⟩ : Addr).add i) v).run P w = .ok () (w.setRow g (cur.setIfInBounds (o + i) v)) := by
      rw [hadd, run_store P w _ v _ (h1 v (by simp)), hcell]
      simp [hfro, setCell_eq_setRow w g (o + i) cur t fr v hg]
    have ih := run_storeCells_mark (P := P) g o t fr rest (i + 1) (cur.setIfInBounds (o + i) v) (w.setRow g (cur.setIfInBounds (o + i) v)) (setRow_heap w g cur _ t _ hg) (by simpa using hm) (by simp at hl ⊢; omega) (fun x hx => h1 x (by simp [hx]))
    simp only [storeCells, Sem.run_bind, hst, Result.andThen_ok, ih, setRow_setRow]
    congr 3
    have e := list_seg_step cur.toList (o + i) v rest (by simp at hl ⊢; omega)
    simpa [Array.toList_setIfInBounds, Nat.add_assoc] using e

theorem upd_setRow {w : World} {g : Nat} {cur : Array Value} {t : TypeId} {fr : Nat × Nat} (arr : Array Value) (hg : w.heap[g]? = some (.cells cur t fr)) : Upd1 w (w.setRow g arr) g (.cells arr t fr) :=
  ⟨setRow_heap w g cur arr t fr hg, fun i hi => setRow_other w g i arr hi, by simp, rfl, rfl, rfl⟩

/-- Cells written over a row that stands for another. -/
theorem lput_rel {xs ys rest vs us : List Value} {arr : Array Value} {i : Nat} (ha : arr.toList = ys ++ rest) (hv : VRs ρ xs ys) (hu : VRs ρ vs us) (hi : i + vs.length ≤ xs.length) :
    i + us.length ≤ arr.size ∧ ∃ ys', (arr.toList.take i ++ us ++ arr.toList.drop (i + us.length)).toArray.toList = ys' ++ rest ∧ VRs ρ (xs.take i ++ vs ++ xs.drop (i + vs.length)) ys' ∧
      (arr.toList.take i ++ us ++ arr.toList.drop (i + us.length)).toArray.size = arr.size := by
  have h1 := hv.length
  have h2 := hu.length
  have hs : arr.size = ys.length + rest.length := by have := congrArg List.length ha; simpa using this
  have hiy : i + us.length ≤ ys.length := by omega
  refine ⟨by omega, ys.take i ++ us ++ ys.drop (i + us.length), ?_, ?_, ?_⟩
  · rw [ha]
    simp only [List.append_assoc]
    rw [List.take_append_of_le_length (by omega), List.drop_append_of_le_length (by omega)]
  · rw [h2]
    exact ((hv.take i).append hu).append (hv.drop _)
  · simp; omega

/-- What an effect that calls nothing does. -/
def EV (P : Program) (t : Tr) (nx : Nat) (tmps : TM) (o : Oper) (v : Value) (t' : Tr) (nx' : Nat) : Prop :=
  nx ≤ nx' ∧ ∀ (B : Nat) (ρ : Ren) (w : World) (a : Act), Rep P B ρ t nx w → OpsR ρ tmps a o.op.operands →
    ∃ v' w' ρ', ((execOp a.eval o).run P w = .ok (.value v') w' ∨ ((execOp a.eval o).run P w = .ok .skip w' ∧ v' = undef)) ∧
      Ren.le ρ ρ' ∧ (∀ b, b < nx → ρ b = none → ρ' b = none) ∧ Rep P B ρ' t' nx' w' ∧ VR ρ' v v' ∧ Below B w w'

theorem EV.same {tmps : TM} {o : Oper} {v : Value} {t' : Tr} (h : ∀ (B : Nat) (ρ : Ren) (w : World) (a : Act), Rep P B ρ t nx w → OpsR ρ tmps a o.op.operands →
    ∃ v' w', ((execOp a.eval o).run P w = .ok (.value v') w' ∨ ((execOp a.eval o).run P w = .ok .skip w' ∧ v' = undef)) ∧ Rep P B ρ t' nx w' ∧ VR ρ v v' ∧ Below B w w') : EV P t nx tmps o v t' nx :=
  ⟨Nat.le_refl _, fun B ρ w a R E => let ⟨v', w', h1, h2, h3, h4⟩ := h B ρ w a R E; ⟨v', w', ρ, h1, .refl ρ, fun _ _ h => h, h2, h3, h4⟩⟩

section ops
variable {tmps : TM} {K : Value → Tr → Nat → Bool} {dst : Option Tmp} {oty : TypeId} {pos : String} {after : Array Edge} {guard : Option (Nat × Bool)}

theorem e_assign {x : Operand} (h : effK P t nx tmps ⟨dst, .assign x, oty, pos, after, guard⟩ K = true) : ∃ v t' nx', K v t' nx' = true ∧ EV P t nx tmps ⟨dst, .assign x, oty, pos, after, guard⟩ v t' nx' := by
  obtain ⟨xv, h, hx⟩ := evK_ev (x := x) h
  exact ⟨_, _, _, h, .same fun B ρ w a R E => ⟨a.eval x, w, .inl rfl, R, E x _ (by simp [Op.operands]) hx, .refl _ _⟩⟩

theorem e_store {ty : TypeId} {x y : Operand} (h : effK P t nx tmps ⟨dst, .store ty x y, oty, pos, after, guard⟩ K = true) : ∃ v t' nx', K v t' nx' = true ∧ EV P t nx tmps ⟨dst, .store ty x y, oty, pos, after, guard⟩ v t' nx' := by
  obtain ⟨xv, h, hx⟩ := evK_ev (x := x) h
  obtain ⟨yv, h, hy⟩ := evK_ev (x := y) h
  split at h
  · obtain ⟨xs, e, g, hg, h⟩ := cellsK_spec h
    obtain ⟨i, hi, h⟩ := infK_spec h
    obtain ⟨hc, h⟩ := boolK_f (b := Nat.beq yv.cells.toList.length i.size && allOne yv.cells.toList) h
    simp only [Bool.and_eq_true] at hc
    obtain ⟨hc1, hc2⟩ := hc
    have hc1 := Nat.eq_of_beq_eq_true hc1
    obtain ⟨hp, h⟩ := lput_spec _ _ _ _ h
    rw [setK_eq] at h
    refine ⟨_, _, _, h, .same fun B ρ w a R E => ?_⟩
    obtain ⟨b', o', c, k, e1, hr, hw⟩ := (E x _ (by simp [Op.operands]) hx).ptr_inv
    cases e1
    have ey := E y _ (by simp [Op.operands]) hy
    obtain ⟨arr, fr, ys, rest, ha, hm, hal, hv, hrest, hk⟩ := R.cells hg hr
    obtain ⟨hs, ys', hl', hv', hsz⟩ := lput_rel hal hv ey.cells hp
    have hone : ∀ v ∈ (a.eval y).cells.toList, v.oneCell' = true := fun v hv => by
      obtain ⟨u, hu, hur⟩ := ey.cells.mem hv
      exact hur.notAgg ((allOne_iff _).1 hc2 u hu)
    have hst := run_storeCells_mark (P := P) c _ e fr (a.eval y).cells.toList 0 arr w ha hm (by simpa using hs) hone
    simp only [Nat.add_zero] at hst
    refine ⟨undef, _, .inr ⟨?_, rfl⟩, R.upd hg rfl rfl hr (upd_setRow _ ha) ⟨rfl, by rw [hsz]; exact hm, ⟨ys', rest, hl', hv', hrest⟩, fun hgt => by rw [hsz]; exact hk hgt⟩, undef_VR ρ, (upd_setRow _ ha).below (R.low _ _ _ _ hg rfl hr)⟩
    have hcs : (a.eval y).cells.size = i.size := by have := ey.cells.length; simp at this hc1; omega
    simp only [execOp, Instr.storeAt, hw, Instr.sureAddr, storeVar, Sem.run_bind, Sem.run_pure, Result.andThen_ok, sizeOf, typeInfo, run_program, hi, Sem.run_ite, hcs]
    simp [hst]
  · exact absurd h Bool.false_ne_true

theorem e_convert {src cdst : TypeId} {x : Operand} (h : effK P t nx tmps ⟨dst, .convert src cdst x, oty, pos, after, guard⟩ K = true) :
    ∃ v t' nx', K v t' nx' = true ∧ EV P t nx tmps ⟨dst, .convert src cdst x, oty, pos, after, guard⟩ v t' nx' := by
  obtain ⟨xv, h, hx⟩ := evK_ev (x := x) h
  obtain ⟨hsd, h⟩ := boolK_f h
  have hsd := Nat.eq_of_beq_eq_true hsd
  obtain ⟨d, hd, h⟩ := undK_spec h
  split at h
  · obtain ⟨ed, he, h⟩ := undK_spec h
    split at h
    · obtain ⟨hce, h⟩ := boolK_t h
      obtain ⟨xs, e, g, hg, h⟩ := cellsK_spec h
      refine ⟨_, _, _, h, .same fun B ρ w a R E => ?_⟩
      have ex := E x _ (by simp [Op.operands]) hx
      have sh : ∃ b o c k a' n q, ρ b = some (c, k) ∧ Tr.get D t b = some (.cells xs e g) ∧ a.eval x = .slice (some a') n q ∧ a' = ⟨c, o, none⟩ := by
        obtain ⟨b', o', e1, ⟨c, k, hr, _, hw⟩ | ⟨c, k, q', hr, _, _, _, _, hw⟩ | ⟨c, o'', q', hq, _, _, hw⟩⟩ := ex.slice_inv
        · cases e1; exact ⟨_, _, c, k, _, _, _, hr, hg, hw, rfl⟩
        · cases e1; exact ⟨_, _, c, k, _, _, _, hr, hg, hw, rfl⟩
        · rw [hq, beqF] at hce; simp at hce
      obtain ⟨b, o, c, k, a', n, q, hr, hg', hw, ha'⟩ := sh
      obtain ⟨arr, fr, ys, rest, ha, hm, hal, hv, hrest, hk⟩ := R.cells hg' hr
      have hu : Upd1 w (w.freeze { block := c, off := arr.size } 1) c (.cells arr e (arr.size, arr.size + 1)) := by
        have hmod : (match Obj.cells arr e fr with
          | .cells c' elem (lo, hi) => Obj.cells c' elem (if lo == hi then (arr.size, arr.size + 1) else (min lo arr.size, max hi (arr.size + 1)))
          | o => o) = .cells arr e (arr.size, arr.size + 1) := by
          rcases hm with rfl | rfl
          · rfl
          · simp
        refine ⟨?_, fun i hi => ?_, by simp [World.freeze], rfl, rfl, rfl⟩
        · simp only [World.freeze, if_neg (show ¬ (1 = 0) by decide), Array.getElem?_modify, if_true, ha, Option.map_some]
          exact congrArg some hmod
        · simp only [World.freeze, if_neg (show ¬ (1 = 0) by decide), Array.getElem?_modify]
          rw [if_neg (by omega)]
      refine ⟨a.eval x, w.freeze { block := c, off := arr.size } 1, .inl ?_, R.mark hg' rfl hr hu ⟨rfl, .inr rfl, ⟨ys, rest, hal, hv, hrest⟩, hk⟩, ex, hu.below (R.low _ _ _ _ hg' rfl hr)⟩
      subst hsd
      have hsh : w.shape? c = some (e, arr.size) := by simp [World.shape?, ha]
      simp only [execOp, hw, ha', convert, Sem.run_bind, run_underlying hd, run_underlying he, Result.andThen_ok]
      simp [markStringish, hsh]
    · exact absurd h Bool.false_ne_true
  · exact absurd h Bool.false_ne_true
end ops
end Go.Abs
