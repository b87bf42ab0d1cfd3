/-
  An interpreter of the compiled program over a heap of its own, its compiler, what its states stand for; the operations that look at the frame, the loads, the blocks made.
-/
import GoSem.Step
import GoSem.Core.View
import Derived.Laws.Cells
import Derived.Laws.Rows
import Derived.Laws.CopyRow
import Derived.Laws.IdiomCopy
import Derived.Laws.Entries
import Derived.ChangeKeysEq
import Derived.Laws.Tables
import Derived.Great.BuildSlice
import Derived.Laws.NewFold
import Derived.Laws.BytesString
namespace Go.Proofs.YtccbdaffjkdpgaaGreatDoor.Vw
noncomputable section

/-! trees -/
inductive Tr (α : Type) where
  | e
  | nd (v : α) (l r : Tr α)

def gJ {α β : Type} (gl gr : Nat → (α → β) → β → β) (k : α → β) (d : β) (j : Nat) (_ : β) : β := Nat.rec (gl (Nat.div j 2) k d) (fun _ _ => gr (Nat.div j 2) k d) (Nat.land j 1)
def gN {α β : Type} (v : α) (_ _ : Tr α) (gl gr : Nat → (α → β) → β → β) (i : Nat) (k : α → β) (d : β) : β := Nat.rec (k v) (gJ gl gr k d) i
def gE {α β : Type} (_ : Nat) (_ : α → β) (d : β) : β := d
def Tr.getK {α β : Type} (t : Tr α) : Nat → (α → β) → β → β := Tr.rec gE gN t
def pL {α : Type} (u : α) (r : Tr α) (a : α) (b c : Tr α) (_ _ : Tr α) : Tr α := .nd u (.nd a b c) r
def pR {α : Type} (u : α) (l : Tr α) (a : α) (b c : Tr α) (_ _ : Tr α) : Tr α := .nd u l (.nd a b c)
def pJ {α : Type} (u : α) (l r : Tr α) (pl pr : Nat → α → Tr α) (v : α) (j : Nat) (_ : Tr α) : Tr α := Nat.rec (Tr.rec .e (pL u r) (pl (Nat.div j 2) v)) (fun _ _ => Tr.rec .e (pR u l) (pr (Nat.div j 2) v)) (Nat.land j 1)
def pN {α : Type} (u : α) (l r : Tr α) (pl pr : Nat → α → Tr α) (i : Nat) (v : α) : Tr α := Nat.rec (.nd v l r) (pJ u l r pl pr v) i
def pE {α : Type} (_ : Nat) (v : α) : Tr α := .nd v .e .e
def Tr.put {α : Type} (t : Tr α) : Nat → α → Tr α := Tr.rec pE pN t
def Tr.putL {α : Type} (t : Tr α) (i : Nat) (l : List α) : Tr α :=
  List.rec (fun t _ => t) (fun v _ ih t i => Tr.rec .e (fun a b c _ _ => ih (.nd a b c) (Nat.succ i)) (t.put i v)) l t i
def Tr.rangeK {α β : Type} (t : Tr α) (n : Nat) (i : Nat) (k : List α → β) (d : β) : β :=
  Nat.rec (fun _ k => k []) (fun _ ih i k => t.getK i (fun v => ih (Nat.succ i) (fun l => k (v :: l))) d) n i k
def nthK {α β : Type} (l : List α) : Nat → (α → β) → β → β :=
  List.rec (fun _ _ d => d) (fun v _ ih i k d => Nat.rec (k v) (fun j _ => ih j k d) i) l

/-- a number, made plain -/
def forceN {β : Type} (n : Nat) (k : Nat → β) : β := Nat.rec (k 0) (fun m _ => k (Nat.succ m)) n
def forceI {β : Type} (n : Int) (k : Int → β) : β := Int.rec (fun m => forceN m fun m => k (.ofNat m)) (fun m => forceN m fun m => k (.negSucc m)) n

/-! the state -/
inductive Blk where
  | dead
  | row (elem : TypeId) (op : Bool) (len o : Nat) (cs : Tr Value)
  | map0

abbrev H := Tr Blk
abbrev Loc := List Value
abbrev Fr := Tr Value
abbrev R := Option (Value × H × Nat)
abbrev KV := Value → H → Nat → R
abbrev KF := Fr → H → Nat → R
abbrev Call := Nat → List Value → H → Nat → KV → R

/-- caps from here on: of a block whose size is not known -/
def OPEN : Nat := 1180591620717411303424
/-- numbers up to here are plain -/
def MAX : Nat := 9223372036854775807

inductive Opd where
  | l (k : Nat)
  | s (i : Nat)
  | c (v : Value)

def evS (f : Fr) (k : Value → R) (i : Nat) : R := f.getK i k none
def evN (v : Value) (_ : Loc) (ih : (Value → R) → Nat → R) (k : Value → R) (i : Nat) : R := Nat.rec (k v) (fun j _ => ih k j) i
def evE (_ : Value → R) (_ : Nat) : R := none
def evL0 (L : Loc) : (Value → R) → Nat → R := List.rec evE evN L
def ev (o : Opd) (L : Loc) (f : Fr) (k : Value → R) : R := Opd.rec (evL0 L k) (evS f k) k o
def evL (l : List Opd) (L : Loc) (f : Fr) (k : List Value → R) : R :=
  List.rec (fun k => k []) (fun o _ ih k => ev o L f fun v => ih fun r => k (v :: r)) l k

def n1 {α : Type} (_ : α) : R := none
def n2 {α β : Type} (_ : α) (_ : β) : R := none
def n3 {α β γ : Type} (_ : α) (_ : β) (_ : γ) : R := none
def n5 {α β γ δ ε : Type} (_ : α) (_ : β) (_ : γ) (_ : δ) (_ : ε) : R := none
def u2 (_ : List Value) (_ : Unit) : Unit := ()
def u4 (_ : Value) (_ : List Value) (_ : R) (_ : Unit) : Unit := ()
def cR {α : Type} (_ : α) : Type := R
def cU {α : Type} (_ : α) : Type := Unit
def asInt (v : Value) (k : IntKind → Int → R) : R := @Value.rec cR cU cU n1 k n2 n3 n1 n1 n3 n1 n1 n5 none n3 none n2 n2 u2 () u4 v
def natO (k : Nat → R) (n : Nat) : R := Bool.rec none (k n) (Nat.ble n 9223372036854775807)
def natI (k : Nat → R) (_ : IntKind) (n : Int) : R := Int.rec (natO k) n1 n
/-- a plain number -/
def asNat (v : Value) (k : Nat → R) : R := @Value.rec cR cU cU n1 (natI k) n2 n3 n1 n1 n3 n1 n1 n5 none n3 none n2 n2 u2 () u4 v
def optR {α : Type} (k : α → R) (o : Option α) : R := Option.rec none k o
def asPtr (v : Value) (k : Addr → R) : R := @Value.rec cR cU cU n1 n2 n2 n3 n1 (optR k) n3 n1 n1 n5 none n3 none n2 n2 u2 () u4 v
def boolT (t e : R) (b : Bool) : R := Bool.rec e t b
def asBool (v : Value) (t e : R) : R := @Value.rec cR cU cU (boolT t e) n2 n2 n3 n1 n1 n3 n1 n1 n5 none n3 none n2 n2 u2 () u4 v
def asSl (v : Value) (k : Option Addr → Nat → Nat → R) : R := @Value.rec cR cU cU n1 n2 n2 n3 n1 n1 k n1 n1 n5 none n3 none n2 n2 u2 () u4 v
def arrL (k : List Value → R) (a : Array Value) (_ : Unit) : R := Array.rec k a
def asAgg (v : Value) (k : List Value → R) : R := @Value.rec cR cU cU n1 n2 n2 n3 n1 n1 n3 n1 n1 n5 none n3 none (arrL k) n2 u2 () u4 v
def asStr (v : Value) (k : ByteArray → R) : R := match v with
  | .string s => k s
  | _ => none
/-- a value's cells; none of a tuple -/
def cellsK (v : Value) (k : List Value → R) : R := match v with
  | .agg cs => Array.rec k cs
  | .tuple _ => none
  | v => k [v]

abbrev Pu := Loc → Fr → (Value → R) → R
abbrev Ld := Loc → Fr → H → (Value → R) → R
abbrev Al := Loc → Fr → (Blk → (Nat → Value) → R) → (Value → R) → R
abbrev Ef := Call → Loc → Fr → H → Nat → KV → R

def mkV (agg : Bool) (l : List Value) (k : Value → R) : R := match agg with
  | true => k (.agg ⟨l⟩)
  | false => match l with
    | [v] => k v
    | _ => none

def blkK (h : H) (b : Nat) (k : TypeId → Bool → Nat → Nat → Tr Value → R) : R := h.getK b (fun blk => Blk.rec none k none blk) none
def loadK (h : H) (a : Addr) (n : Nat) (k : List Value → R) : R :=
  Addr.rec (fun b off spot => Option.rec
    (blkK h b fun _ _ len o cs => Bool.rec none (cs.rangeK n (Nat.add o off) k none) (Nat.ble (Nat.add off n) len))
    (fun _ => none) spot) a
def load1 (h : H) (a : Addr) (k : Value → R) : R :=
  Addr.rec (fun b off spot => Option.rec
    (blkK h b fun _ _ len o cs => Bool.rec none (cs.getK (Nat.add o off) k none) (Nat.ble (Nat.succ off) len))
    (fun _ => none) spot) a
def putH (h : H) (b : Nat) (x : Blk) (k : H → R) : R := Tr.rec none (fun v l r _ _ => k (.nd v l r)) (h.put b x)
def storeK (h : H) (a : Addr) (vs : List Value) (k : H → R) : R :=
  List.rec (k h) (fun v0 vr _ => Addr.rec (fun b off spot => Option.rec
    (blkK h b fun e op len o cs => Bool.rec none
      (Tr.rec none (fun v l r _ _ => putH h b (.row e op len o (.nd v l r)) k) (cs.putL (Nat.add o off) (v0 :: vr))) (Nat.ble (Nat.add off (List.length (v0 :: vr))) len))
    (fun _ => none) spot) a) vs
def addA (a : Addr) (n : Nat) (k : Addr → R) : R :=
  Nat.rec (k a) (fun m _ => Addr.rec (fun b off _ => forceN (Nat.add off (Nat.succ m)) fun o => k ⟨b, o, none⟩) a) n
def newB (h : H) (n : Nat) (x : Blk) (k : H → Nat → R) : R := putH h n x fun h => forceN (Nat.succ n) fun n' => k h n'
def ofL (l : List Value) : Tr Value := Tr.putL .e 0 l

/-! operations that look at the frame alone -/
def movP (x : Opd) : Pu := fun L f k => ev x L f k
def pickP (c a b : Opd) : Pu := fun L f k => ev c L f fun v => asBool v (ev a L f k) (ev b L f k)
def setL (l : List Value) : Nat → List Value → List Value := match l with
  | [] => fun _ _ => []
  | a :: l => fun i r => match i with
    | 0 => match r with
      | [] => a :: l
      | v :: r => v :: setL l 0 r
    | i + 1 => a :: setL l i r
def fillL (L : Loc) (f : Fr) (ps : List (Nat × Nat × Opd)) (z : List Value) (k : List Value → R) : R := match ps with
  | [] => k z
  | (off, m, x) :: r => ev x L f fun v => cellsK v fun c => match Nat.beq c.length m, Nat.ble (off + m) z.length with
    | true, true => fillL L f r (setL z off c) k
    | _, _ => none
def buildP (z : List Value) (ps : List (Nat × Nat × Opd)) : Pu := fun L f k => fillL L f ps z fun l => k (.agg ⟨l⟩)
def nilckP (x : Opd) : Pu := fun L f k => ev x L f fun v => match v with
  | .pointer (some a) => k (.pointer (some a))
  | .func (.func g) a b => k (.func (.func g) a b)
  | _ => none

/-! numbers -/
/-- a number of a kind, wrapped; it is plain -/
def wrapK (kd : IntKind) (n : Int) (k : Int → R) : R := match kd with
  | .i64 => Int.rec (fun m => Bool.rec none (forceN m fun m => k (.ofNat m)) (Nat.ble m 9223372036854775807))
      (fun m => Bool.rec none (forceN m fun m => k (.negSucc m)) (Nat.ble m 9223372036854775807)) n
  | .u8 => Int.rec (fun m => forceN (Nat.mod m 256) fun m => k (.ofNat m)) (fun _ => forceI (IntKind.u8.wrap n) k) n
  | .u16 => Int.rec (fun m => forceN (Nat.mod m 65536) fun m => k (.ofNat m)) (fun _ => forceI (IntKind.u16.wrap n) k) n
  | .u32 => Int.rec (fun m => forceN (Nat.mod m 4294967296) fun m => k (.ofNat m)) (fun _ => forceI (IntKind.u32.wrap n) k) n
  | kd => forceI (kd.wrap n) k
def mkI (kd : IntKind) (n : Int) (k : Value → R) : R := wrapK kd n fun n => k (.int kd n)
def semV (s : Sem Value) (k : Value → R) : R := match s with
  | .pure v => k v
  | _ => none
def ltI (a b : Int) : Bool := Int.rec (fun a => Int.rec (fun b => Nat.ble (Nat.succ a) b) (fun _ => false) b) (fun a => Int.rec (fun _ => true) (fun b => Nat.ble (Nat.succ b) a) b) a
def eqI (a b : Int) : Bool := Int.rec (fun a => Int.rec (fun b => Nat.beq a b) (fun _ => false) b) (fun a => Int.rec (fun _ => false) (fun b => Nat.beq a b) b) a
def kEq (a b : IntKind) : Bool := Nat.beq a.ctorIdx b.ctorIdx
/-- a number that is plain -/
def plI (n : Int) (k : R) : R := Int.rec (fun m => Bool.rec none k (Nat.ble m 18446744073709551615)) (fun _ => k) n

/-! numbers that are not plain: codes; what is known of them -/
structure Row where
  o : Nat
  a : Nat
  b : Nat
  v : Value
/-- rows in heaps, by their operands -/
abbrev Tab := Tr (List Row)
def kyT (a b : Nat) : Nat := Nat.land (Nat.add a b) 255
def lookL (T : List Row) (o a b : Nat) (k : Value → R) : R := List.rec none (fun w _ ih => Row.rec (fun o' a' b' v => Bool.rec ih (Bool.rec ih (Bool.rec ih (k v) (Nat.beq o' o)) (Nat.beq b' b)) (Nat.beq a' a)) w) T
def look (T : Tab) (o a b : Nat) (k : Value → R) : R := Tr.getK T (kyT a b) (fun l => lookL l o a b k) none
def sym (T : Tab) (o : Nat) (a b : Int) (k : Value → R) : R := Int.rec (fun a => Int.rec (fun b => look T o a b k) (fun _ => none) b) (fun _ => none) a
/-- a plain number, or not -/
def plT (t e : R) (m : Nat) : R := Bool.rec e t (Nat.ble m 18446744073709551615)
def kk (t : R) (_ : Nat) : R := t
def plE (n : Int) (t e : R) : R := Int.rec (plT t e) (kk t) n
/-- a plain number as a value -/
def chk (v : Value) (k : Value → R) : R := asInt v fun kd n => plI n (k (.int kd n))

/-- both operands numbers of one kind -/
def i2s (T : Tab) (o : Nat) (k : Value → R) (ka : IntKind) (a b : Int) : R := sym T (Nat.add (Nat.mul o 16) ka.ctorIdx) a b k
def i2d (T : Tab) (o : Nat) (g : IntKind → Int → Int → (Value → R) → R) (k : Value → R) (ka : IntKind) (a : Int) (kb : IntKind) (b : Int) : R :=
  Bool.rec none (plE a (plE b (g ka a b k) (i2s T o k ka a b)) (i2s T o k ka a b)) (kEq ka kb)
def i2c (T : Tab) (o : Nat) (g : IntKind → Int → Int → (Value → R) → R) (k : Value → R) (u : Value) (ka : IntKind) (a : Int) : R := asInt u (i2d T o g k ka a)
def i2b (T : Tab) (o : Nat) (g : IntKind → Int → Int → (Value → R) → R) (k : Value → R) (v u : Value) : R := asInt v (i2c T o g k u)
def i2a (T : Tab) (o : Nat) (y : Opd) (g : IntKind → Int → Int → (Value → R) → R) (L : Loc) (f : Fr) (k : Value → R) (v : Value) : R := ev y L f (i2b T o g k v)
def int2 (T : Tab) (o : Nat) (x y : Opd) (g : IntKind → Int → Int → (Value → R) → R) : Pu := fun L f k => ev x L f (i2a T o y g L f k)
/-- both operands plain numbers of one kind -/
def int2p (x y : Opd) (g : IntKind → Int → Int → (Value → R) → R) : Pu := fun L f k => ev x L f fun v => ev y L f fun u => asInt v fun ka a => asInt u fun kb b =>
  Bool.rec none (plI a (plI b (g ka a b k))) (kEq ka kb)
def mkN (k : Value → R) (kd : IntKind) (n : Int) : R := k (.int kd n)
def addNN (kd : IntKind) (k : Value → R) (x y : Nat) : R := mkI kd (.ofNat (Nat.add x y)) k
def addNG (kd : IntKind) (k : Value → R) (x y : Nat) : R := mkI kd (Int.add (.ofNat x) (.negSucc y)) k
def addGG (kd : IntKind) (k : Value → R) (b : Int) (x : Nat) : R := mkI kd (Int.add (.negSucc x) b) k
def addNI (kd : IntKind) (k : Value → R) (b : Int) (x : Nat) : R := Int.rec (addNN kd k x) (addNG kd k x) b
def addG (kd : IntKind) (a b : Int) (k : Value → R) : R := Int.rec (addNI kd k b) (addGG kd k b) a
def subG (kd : IntKind) (a b : Int) (k : Value → R) : R := mkI kd (Int.sub a b) k
def mulG (kd : IntKind) (a b : Int) (k : Value → R) : R := mkI kd (Int.mul a b) k
def eqG (_ : IntKind) (a b : Int) (k : Value → R) : R := k (.bool (eqI a b))
def neG (_ : IntKind) (a b : Int) (k : Value → R) : R := k (.bool (not (eqI a b)))
def ltG (_ : IntKind) (a b : Int) (k : Value → R) : R := k (.bool (ltI a b))
def gtG (_ : IntKind) (a b : Int) (k : Value → R) : R := k (.bool (ltI b a))
def leG (_ : IntKind) (a b : Int) (k : Value → R) : R := k (.bool (not (ltI b a)))
def geG (_ : IntKind) (a b : Int) (k : Value → R) : R := k (.bool (not (ltI a b)))
def bitsG (op : BinOp) (kd : IntKind) (a b : Int) (k : Value → R) : R := semV (Op.intBits op kd a b) fun v => chk v k
def u8B (a : Nat) : Bool := Nat.ble a 255
def andG (kd : IntKind) (a b : Int) (k : Value → R) : R := Int.rec (fun x => Int.rec (fun y => forceN (Nat.land x y) fun m => mkI kd (.ofNat m) k) (fun _ => bitsG .and kd a b k) b) (fun _ => bitsG .and kd a b k) a
def orG (kd : IntKind) (a b : Int) (k : Value → R) : R := Int.rec (fun x => Int.rec (fun y => forceN (Nat.lor x y) fun m => mkI kd (.ofNat m) k) (fun _ => bitsG .or kd a b k) b) (fun _ => bitsG .or kd a b k) a
def quoG (kd : IntKind) (a b : Int) (k : Value → R) : R := Int.rec (fun x => Int.rec (fun y => Nat.rec none (fun y _ => mkI kd (.ofNat (Nat.div x (Nat.succ y))) k) y) (fun _ => semV (Op.intDiv .quo kd a b) fun v => chk v k) b) (fun _ => semV (Op.intDiv .quo kd a b) fun v => chk v k) a
def remG (kd : IntKind) (a b : Int) (k : Value → R) : R := Int.rec (fun x => Int.rec (fun y => Nat.rec none (fun y _ => forceN (Nat.mod x (Nat.succ y)) fun m => k (.int kd (.ofNat m))) y) (fun _ => semV (Op.intDiv .rem kd a b) fun v => chk v k) b) (fun _ => semV (Op.intDiv .rem kd a b) fun v => chk v k) a
def shP (T : Tab) (left : Bool) (x y : Opd) : Pu := fun L f k => ev x L f fun v => ev y L f fun u => asInt v fun kd a => asNat u fun b => Int.rec
  (fun a => Bool.rec (look T (Nat.add (Bool.rec 656 640 left) kd.ctorIdx) a b k) (Bool.rec (forceN (Nat.div a (Nat.pow 2 (Nat.min b kd.bits))) fun m => k (.int kd (.ofNat m))) (mkI kd (.ofNat (Nat.mul a (Nat.pow 2 (Nat.min b kd.bits)))) k) left) (Nat.ble a 18446744073709551615))
  (fun _ => none) a

/-- the rest of the comparisons: of truths; of nil -/
inductive EqC where
  | b | p | s | f
def nilB (a b : Option Addr) (k : Bool → R) : R := match a with
  | none => k b.isNone
  | some _ => match b with
    | none => k false
    | some _ => none
def isF (v : Value) : Bool := match v with
  | .func _ _ _ => true
  | _ => false
def isNF (v : Value) : Bool := match v with
  | .nilFunc => true
  | _ => false
def eqB (c : EqC) (x y : Value) (k : Bool → R) : R := match c with
  | .b => match x with
    | .bool a => match y with
      | .bool b => k (Bool.rec (not b) b a)
      | _ => none
    | _ => none
  | .p => match x with
    | .pointer a => match y with
      | .pointer b => nilB a b k
      | _ => none
    | _ => none
  | .s => match x with
    | .slice a _ _ => match y with
      | .slice b _ _ => nilB a b k
      | _ => none
    | _ => none
  | .f => Bool.rec (Bool.rec none (Bool.rec none (k false) (isNF y)) (isF x)) (Bool.rec (Bool.rec none (k false) (isF y)) (k true) (isNF y)) (isNF x)
def eqP (c : EqC) (neg : Bool) (x y : Opd) : Pu := fun L f k => ev x L f fun v => ev y L f fun u => eqB c v u fun b => k (.bool (Bool.rec b (not b) neg))
def strP (op : BinOp) (x y : Opd) : Pu := fun L f k => ev x L f fun v => ev y L f fun u => asStr v fun a => asStr u fun b => semV (Op.stringOp op a b) k

def lookOL (T : List Row) (o a b : Nat) : Option Value := List.rec none (fun w _ ih => Row.rec (fun o' a' b' v => Bool.rec ih (Bool.rec ih (Bool.rec ih (some v) (Nat.beq o' o)) (Nat.beq b' b)) (Nat.beq a' a)) w) T
def lookO (T : Tab) (o a b : Nat) : Option Value := Tr.getK T (kyT a b) (fun l => lookOL l o a b) none
def boolO (o : Option Value) : Option Bool := match o with
  | some (.bool b) => some b
  | _ => none
def eqCell (T : Tab) (x y : Value) : Option Bool := match x with
  | .int ka a => match y with
    | .int kb b => match kEq ka kb with
      | true => Int.rec (fun m => Int.rec (fun m' => Bool.rec (boolO (lookO T (Nat.add 176 ka.ctorIdx) m m')) (Bool.rec (boolO (lookO T (Nat.add 176 ka.ctorIdx) m m')) (some (Nat.beq m m')) (Nat.ble m' 18446744073709551615)) (Nat.ble m 18446744073709551615)) (fun _ => none) b) (fun _ => none) a
      | false => none
    | _ => none
  | _ => none
def eqCells (T : Tab) (l r : List Value) : Option Bool := match l with
  | [] => match r with
    | [] => some true
    | _ :: _ => none
  | x :: l => match r with
    | [] => none
    | y :: r => match eqCell T x y with
      | some true => eqCells T l r
      | some false => some false
      | none => none
def eqAggP (T : Tab) (neg : Bool) (m : Nat) (x y : Opd) : Pu := fun L f k => ev x L f fun v => ev y L f fun u => asAgg v fun a => asAgg u fun b => Bool.rec none (Bool.rec none
  (Option.rec none (fun r => k (.bool (Bool.rec r (not r) neg))) (eqCells T a b)) (Nat.beq b.length m)) (Nat.beq a.length m)
def unP (op : UnOp) (x : Opd) : Pu := fun L f k => ev x L f fun v => match v with
  | .int kd m => plI m (semV (Op.unary op (.int kd m)) fun v => asInt v fun kd m => forceI m fun m => plI m (k (.int kd m)))
  | .bool b => semV (Op.unary op (.bool b)) k
  | _ => none
def convP (T : Tab) (kd : IntKind) (x : Opd) : Pu := fun L f k => ev x L f fun v => asInt v fun _ a => plE a (mkI kd a k) (sym T (Nat.add 1024 kd.ctorIdx) a (.ofNat 0) k)
def ptrs (l : List Value) : Bool := match l with
  | [] => true
  | v :: l => match v with
    | .pointer _ => ptrs l
    | _ => false
def mkfP (g : FuncId) (b : List Opd) : Pu := fun L f k => evL b L f fun b => Bool.rec none (k (.func (.func g) #[] ⟨b⟩)) (ptrs b)
def sidP (x : Opd) : Pu := fun L f k => ev x L f fun v => asStr v fun s => k (.string s)
def repl (z : List Value) (n : Nat) : List Value := match n with
  | 0 => []
  | n + 1 => z ++ repl z n

def evO (o : Option Opd) (d : Nat) (L : Loc) (f : Fr) (k : Nat → R) : R := Option.rec (k d) (fun o => ev o L f fun v => asNat v k) o
def bnds (L : Loc) (f : Fr) (len cap : Nat) (lo hi mx : Option Opd) (k : Nat → Nat → Nat → R) : R :=
  evO mx cap L f fun m => evO hi len L f fun hh => evO lo 0 L f fun l => Bool.rec none (Bool.rec none (Bool.rec none
    (forceN (Nat.sub hh l) fun x => forceN (Nat.sub m l) fun y => k l x y) (Nat.ble m cap)) (Nat.ble hh m)) (Nat.ble l hh)
/-- 'y' = the new cap: at 0 the address stays -/
def shiftA (a : Addr) (l size y : Nat) (k : Addr → R) : R := Nat.rec (k a) (fun _ _ => addA a (Nat.mul l size) k) y
def slArrP (len size : Nat) (x : Opd) (lo hi mx : Option Opd) : Pu := fun L f k => ev x L f fun v => asPtr v fun a => bnds L f len len lo hi mx fun l x y =>
  shiftA a l size y fun a => k (.slice (some a) x y)
def SPB : Nat := 18446744073709551616
def spotK (b off s cap B Z : Nat) (k : Value → R) : R := Bool.rec none (forceN (Nat.add (Nat.mul s B) (Nat.sub cap Z)) fun q => k (.slice (some ⟨b, off, some q⟩) 0 0)) (Nat.ble (Nat.succ (Nat.sub cap Z)) B)
def slSlP (size : Nat) (x : Opd) (lo hi mx : Option Opd) : Pu := fun L f k => ev x L f fun v => asSl v fun a len cap =>
  Bool.rec
    (Option.rec (bnds L f len cap lo hi mx fun _ x y => k (.slice none x y))
      (fun a => Addr.rec (fun b off spot => Option.rec (bnds L f len cap lo hi mx fun l x y => shiftA ⟨b, off, none⟩ l size y fun a => k (.slice (some a) x y)) (fun _ => none) spot) a) a)
    (Option.rec none (fun a => Addr.rec (fun b off spot => Option.rec
      (Option.rec
        (bnds L f len len lo hi none fun l x y => Nat.rec
          (Nat.rec (k (.slice (some ⟨b, off, none⟩) 0 cap)) (fun _ _ => forceN (Nat.add cap l) fun c => forceN (Nat.mul l size) fun s => k (.slice (some ⟨b, off, some s⟩) 0 c)) l)
          (fun _ _ => addA ⟨b, off, none⟩ (Nat.mul l size) fun a => forceN (Nat.add cap l) fun c => k (.slice (some a) x c)) y)
        (fun _ => bnds L f len len lo hi mx fun l x y => shiftA ⟨b, off, none⟩ l size y fun a => k (.slice (some a) x y)) mx)
      (fun s => bnds L f 0 0 lo hi mx fun _ _ _ => Option.rec (k (.slice (some ⟨b, off, some s⟩) 0 cap)) (fun _ => spotK b off s cap SPB OPEN k) mx) spot) a) a)
    (Nat.ble OPEN cap)
def slStrP (x : Opd) (lo hi : Option Opd) : Pu := fun L f k => ev x L f fun v => asStr v fun s => bnds L f s.size s.size lo hi none fun l x _ => k (.string (s.extract l (l + x)))
def fadP (off : Nat) (x : Opd) : Pu := fun L f k => ev x L f fun v => asPtr v fun a => addA a off fun a => k (.pointer (some a))
def dropN (n : Nat) (l : List Value) : List Value := match n with
  | 0 => l
  | n + 1 => match l with
    | [] => []
    | _ :: l => dropN n l
def takeN (n : Nat) (l : List Value) : Option (List Value) := match n with
  | 0 => some []
  | n + 1 => match l with
    | [] => none
    | a :: l => match takeN n l with
      | some r => some (a :: r)
      | none => none
def fldP (agg : Bool) (off size : Nat) (x : Opd) : Pu := fun L f k => ev x L f fun v => asAgg v fun cs => Option.rec none (fun l => mkV agg l k) (takeN size (dropN off cs))
def iadArrP (len size : Nat) (x i : Opd) : Pu := fun L f k => ev x L f fun v => asPtr v fun a => ev i L f fun i => asNat i fun i => Bool.rec none
  (addA a (Nat.mul i size) fun a => k (.pointer (some a))) (Nat.ble (Nat.succ i) len)
def iadSlP (size : Nat) (x i : Opd) : Pu := fun L f k => ev x L f fun v => asSl v fun a len _ => Option.rec none (fun a => ev i L f fun i => asNat i fun i => Bool.rec none
  (addA a (Nat.mul i size) fun a => k (.pointer (some a))) (Nat.ble (Nat.succ i) len)) a
def idxArrP (agg : Bool) (len size : Nat) (x i : Opd) : Pu := fun L f k => ev x L f fun v => asAgg v fun cs => ev i L f fun i => asNat i fun i => Bool.rec none
  (Option.rec none (fun l => mkV agg l k) (takeN size (dropN (Nat.mul i size) cs))) (Nat.ble (Nat.succ i) len)
def idxStrP (x i : Opd) : Pu := fun L f k => ev x L f fun v => asStr v fun s => ev i L f fun i => asNat i fun i => match s.data.toList[i]? with
  | some b => k (.int .u8 b.toNat)
  | none => none
def extP (x : Opd) (i : Nat) : Pu := fun L f k => ev x L f fun v => match v with
  | .tuple vs => Array.rec (fun l => nthK l i k none) vs
  | _ => none
def natV (m : Nat) (k : Value → R) : R := Bool.rec none (k (.int .i64 (.ofNat m))) (Nat.ble m 9223372036854775807)
def lenArrP (m : Nat) : Pu := fun _ _ k => natV m k
def lenSlP (x : Opd) : Pu := fun L f k => ev x L f fun v => asSl v fun _ m _ => natV m k
def lenStrP (x : Opd) : Pu := fun L f k => ev x L f fun v => asStr v fun s => forceN s.size fun m => natV m k
def mmG (mx : Bool) (kd : IntKind) (a b : Int) (k : Value → R) : R := Bool.rec (Bool.rec (k (.int kd a)) (k (.int kd b)) (ltI b a)) (Bool.rec (k (.int kd a)) (k (.int kd b)) (ltI a b)) mx
def mmP (T : Tab) (mx : Bool) (x y : Opd) : Pu := int2 T (Bool.rec 45 46 mx) x y (mmG mx)
def badP : Pu := fun _ _ _ => none

/-! operations that look at the heap -/
def ld1L (x : Opd) : Ld := fun L f h k => ev x L f fun v => asPtr v fun a => load1 h a k
def ldL (m : Nat) (x : Opd) : Ld := fun L f h k => ev x L f fun v => asPtr v fun a => loadK h a m fun l => k (.agg ⟨l⟩)
def bytesOf (l : List Value) : Option (List UInt8) := match l with
  | [] => some []
  | v :: l => match v with
    | .int .u8 (.ofNat n) => match Nat.ble n 255 with
      | true => match bytesOf l with
        | some r => some (UInt8.ofNat n :: r)
        | none => none
      | false => none
    | _ => none
def b2sL (x : Opd) : Ld := fun L f h k => ev x L f fun v => asSl v fun a m _ => Option.rec (k (.string .empty)) (fun a => loadK h a m fun l => Option.rec none (fun b => k (.string ⟨⟨b⟩⟩)) (bytesOf l)) a
def okV (ok : Bool) (v : Value) (b : Bool) : Value := match ok with
  | true => .tuple #[v, .bool b]
  | false => v
/-- in an empty map, or nil -/
def lookM (ok : Bool) (z : Value) (len : Nat) (x i : Opd) : Ld := fun L f h k => ev i L f fun i => ev x L f fun v => asAgg i fun cs => Bool.rec none (match v with
  | .map none => k (okV ok z false)
  | .map (some r) => h.getK r (fun b => match b with
    | .map0 => k (okV ok z false)
    | _ => none) none
  | _ => none) (Nat.beq cs.length len)

/-! operations that make memory -/
def boxA (e : TypeId) (m : Nat) (x : Opd) : Al := fun L f k _ => ev x L f fun v => cellsK v fun c => Bool.rec none
  (k (.row e false m 0 (ofL c)) fun b => .pointer (some ⟨b, 0, none⟩)) (Nat.beq c.length m)
def buildSlA (e : TypeId) (z : List Value) (len : Nat) (ps : List (Nat × Nat × Opd)) : Al := fun L f k _ => fillL L f ps z fun l =>
  k (.row e false z.length 0 (ofL l)) fun b => .slice (some ⟨b, 0, none⟩) len len
def mkmA : Al := fun _ _ k _ => k .map0 fun b => .map (some b)
def frzA (x : Opd) : Al := fun L f _ kv => ev x L f fun v => asSl v fun a m c => Option.rec none (fun a => kv (.slice (some a) m c)) a

/-! effects -/
def stE (m : Nat) (x v : Opd) : Ef := fun _ L f h n k => ev x L f fun p => asPtr p fun a => ev v L f fun v => cellsK v fun c => Bool.rec none
  (storeK h a c fun h => k (.tuple #[]) h n) (Nat.beq c.length m)
def lenV (v : Value) (k : Nat → R) : R := match v with
  | .slice _ n _ => k n
  | .string s => k s.size
  | _ => none
def firstC (h : H) (size n : Nat) (v : Value) (k : List Value → R) : R := match v with
  | .slice a _ _ => Option.rec (Nat.rec (k []) (fun _ _ => none) n) (fun a => loadK h a (Nat.mul n size) k) a
  | .string s => Bool.rec none (k ((s.data.toList.take n).map fun b => .int .u8 b.toNat)) (Nat.beq size 1)
  | _ => none
/-- a new row behind nothing: it shares the tree of what it copies -/
def copyB (h : H) (n : Nat) (e : TypeId) (m size : Nat) (v : Value) (k : H → Nat → R) : R := match v with
  | .slice (some a) _ _ => Addr.rec (fun b off spot => Option.rec
    (blkK h b fun _ _ len o cs => Bool.rec none
      (forceN (Nat.mul m size) fun c => forceN (Nat.add o off) fun o => newB h n (.row e true c o cs) k) (Nat.ble (Nat.add off (Nat.mul m size)) len))
    (fun _ => none) spot) a
  | .string s => newB h n (.row e true m 0 (ofL ((s.data.toList.take m).map fun b => .int .u8 b.toNat))) k
  | _ => none
/-- 'new' behind the first 'len' of a row whose size is not known: where it stands, or in a new row -/
def appO (h : H) (n : Nat) (e : TypeId) (size b len cap need : Nat) (new : List Value) (k : KV) : R :=
  blkK h b fun e' op blen o cs => Bool.rec none (Bool.rec none (Bool.rec none (Bool.rec none
    (Tr.rec none (fun v l r _ _ => Bool.rec
      (Bool.rec none (putH h b .dead fun h => forceN (Nat.mul need size) fun c => newB h n (.row e true c o (.nd v l r)) fun h n' => k (.slice (some ⟨n, 0, none⟩) need OPEN) h n') (Nat.ble need 1048576))
      (putH h b (.row e true blen o (.nd v l r)) fun h => k (.slice (some ⟨b, 0, none⟩) need OPEN) h n) (Nat.ble (Nat.mul need size) blen))
      (cs.putL (Nat.add o (Nat.mul len size)) new))
    (Nat.ble (Nat.mul len size) blen)) (Nat.beq cap OPEN)) op) (Nat.beq e' e)
/-- a slice, and 'm' elements behind it, which are 'new' -/
def appV (h : H) (n : Nat) (e : TypeId) (size : Nat) (a : Option Addr) (len cap m : Nat) (new : List Value) (k : KV) : R :=
  forceN (Nat.add len m) fun need => Bool.rec
    (Bool.rec none (firstC h size len (.slice a len cap) fun old => forceN (Nat.mul need size) fun c => newB h n (.row e true c 0 (ofL (old ++ new))) fun h n' => k (.slice (some ⟨n, 0, none⟩) need OPEN) h n') (Nat.ble need 1048576))
    (Option.rec none (fun a => Bool.rec
      (addA a (Nat.mul len size) fun a' => storeK h a' new fun h => k (.slice (some a) need cap) h n)
      (Addr.rec (fun b off spot => Option.rec (Nat.rec (appO h n e size b len cap need new k) (fun _ _ => none) off) (fun _ => none) spot) a)
      (Nat.ble OPEN cap)) a)
    (Nat.ble need cap)
def appE (e : TypeId) (size : Nat) (x y : Opd) : Ef := fun _ L f h n k => ev x L f fun v => ev y L f fun u => asSl v fun a len cap => lenV u fun m => Nat.rec (Bool.rec none (k (.slice a len cap) h n) (Nat.ble len cap)) (fun m' _ =>
  firstC h size (Nat.succ m') u fun new => appV h n e size a len cap (Nat.succ m') new k) m
def appZE (e : TypeId) (size : Nat) (z : List Value) (x y : Opd) : Ef := fun _ L f h n k => ev x L f fun v => ev y L f fun u => asSl v fun a len cap => asNat u fun m => Nat.rec (Bool.rec none (k (.slice a len cap) h n) (Nat.ble len cap)) (fun m' _ =>
  Bool.rec none (appV h n e size a len cap (Nat.succ m') (repl z (Nat.succ m')) k) (Nat.ble (Nat.succ m') 1048576)) m
def cpyE (size : Nat) (x y : Opd) : Ef := fun _ L f h n k => ev x L f fun v => ev y L f fun u => asSl v fun a dl _ => lenV u fun sl => forceN (Nat.min sl dl) fun m => firstC h size m u fun l =>
  natV m fun q => Option.rec (k q h n) (fun a => storeK h a l fun h => k q h n) a
def clrE (z : List Value) (x : Opd) : Ef := fun _ L f h n k => ev x L f fun v => asSl v fun a m _ => Nat.rec (k (.tuple #[]) h n) (fun m' _ =>
  Option.rec (k (.tuple #[]) h n) (fun a => storeK h a (repl z (Nat.succ m')) fun h => k (.tuple #[]) h n) a) m
def callE (g : Opd) (args : List Opd) : Ef := fun call L f h n k => ev g L f fun v => match v with
  | .func (.func g) a b => evL args L f fun l => call g (a.toList ++ (l ++ b.toList)) h n k
  | _ => none

/-! an operation that is not always wanted -/
def gdK (o : Opd) (b : Bool) (L : Loc) (f : Fr) (t e : R) : R := ev o L f fun v => match v with
  | .bool x => Bool.rec (Bool.rec t e x) (Bool.rec e t x) b
  | _ => e
def gdP (o : Opd) (b : Bool) (g : Pu) : Pu := fun L f k => gdK o b L f (g L f k) (k (.tuple #[]))
def gdL (o : Opd) (b : Bool) (g : Ld) : Ld := fun L f h k => gdK o b L f (g L f h k) (k (.tuple #[]))
def gdA (o : Opd) (b : Bool) (g : Al) : Al := fun L f k kv => gdK o b L f (g L f k kv) (kv (.tuple #[]))
def gdE (o : Opd) (b : Bool) (g : Ef) : Ef := fun call L f h n k => gdK o b L f (g call L f h n k) (k (.tuple #[]) h n)

/-! code -/
inductive I where
  | pu (d : Option Nat) (g : Pu)
  | ld (d : Option Nat) (g : Ld) (anc : Nat)
  | al (d : Option Nat) (g : Al)
  | ef (d : Option Nat) (g : Ef) (ix : Nat)

structure X where
  run : Call → KF → (Nat → KF) → KF → Fr → H → Nat → R

def putK (k : Fr → R) (a : Value) (b c : Fr) (_ _ : R) : R := k (.nd a b c)
def putD (v : Value) (f : Fr) (k : Fr → R) (d : Nat) : R := Tr.rec none (putK k) (f.put d v)
def putF (d : Option Nat) (v : Value) (f : Fr) (k : Fr → R) : R := Option.rec (k f) (putD v f k) d

abbrev Ih := Loc → Fr → H → Nat → R
def stB (ih : Ih) (v : Value) (L : Loc) (h : H) (n : Nat) (f : Fr) : R := ih (v :: L) f h n
def stA (ih : Ih) (L : Loc) (f : Fr) (h : H) (n : Nat) (d : Option Nat) (v : Value) : R := putF d v f (stB ih v L h n)
def stE2 (ih : Ih) (L : Loc) (f : Fr) (d : Option Nat) (v : Value) (h : H) (n : Nat) : R := putF d v f (stB ih v L h n)
def stM (ih : Ih) (L : Loc) (f : Fr) (n : Nat) (d : Option Nat) (mk : Nat → Value) (h : H) (n' : Nat) : R := putF d (mk n) f (stB ih (mk n) L h n')
def stN (ih : Ih) (L : Loc) (f : Fr) (h : H) (n : Nat) (d : Option Nat) (b : Blk) (mk : Nat → Value) : R := newB h n b (stM ih L f n d mk)
def rPu (ih : Ih) (L : Loc) (f : Fr) (h : H) (n : Nat) (d : Option Nat) (g : Pu) : R := g L f (stA ih L f h n d)
def rLd (ih : Ih) (L : Loc) (f : Fr) (h : H) (n : Nat) (d : Option Nat) (g : Ld) (_ : Nat) : R := g L f h (stA ih L f h n d)
def rAl (ih : Ih) (L : Loc) (f : Fr) (h : H) (n : Nat) (d : Option Nat) (g : Al) : R := g L f (stN ih L f h n d) (stA ih L f h n d)
def rEf (call : Call) (ih : Ih) (L : Loc) (f : Fr) (h : H) (n : Nat) (d : Option Nat) (g : Ef) (_ : Nat) : R := g call L f h n (stE2 ih L f d)
def rSt (call : Call) (i : I) (_ : List I) (ih : Ih) (L : Loc) (f : Fr) (h : H) (n : Nat) : R := I.rec (rPu ih L f h n) (rLd ih L f h n) (rAl ih L f h n) (rEf call ih L f h n) i
def rE (k : KF) (_ : Loc) (f : Fr) (h : H) (n : Nat) : R := k f h n
def regR (call : Call) (k : KF) (l : List I) : Loc → Fr → H → Nat → R := List.rec (rE k) (rSt call) l
def regX (l : List I) : X := ⟨fun call kn _ _ f h n => regR call kn l [] f h n⟩

def adEq (a b : Addr) : Bool := Nat.beq a.block b.block && (Nat.beq a.off b.off && (match a.spot, b.spot with
  | none, none => true
  | some x, some y => Nat.beq x y
  | _, _ => false))
def veq1 (x y : Value) : Bool := match x, y with
  | .int ka a, .int kb b => kEq ka kb && eqI a b
  | .bool a, .bool b => a == b
  | .string a, .string b => a.data.toList == b.data.toList
  | .pointer none, .pointer none => true
  | .pointer (some a), .pointer (some b) => adEq a b
  | .slice none a b, .slice none c d => Nat.beq a c && Nat.beq b d
  | .slice (some x) a b, .slice (some y) c d => adEq x y && (Nat.beq a c && Nat.beq b d)
  | .map none, .map none => true
  | .map (some a), .map (some b) => Nat.beq a b
  | .nilFunc, .nilFunc => true
  | _, _ => false
def veqL (l r : List Value) : Bool := match l, r with
  | [], [] => true
  | a :: l, b :: r => veq1 a b && veqL l r
  | _, _ => false
def veq (x y : Value) : Bool := match x, y with
  | .agg a, .agg b => veqL a.toList b.toList
  | .tuple a, .tuple b => veqL a.toList b.toList
  | a, b => veq1 a b

/-- a load's value is the same in the heaps as they stood ahead of the effects that it does not wait for -/
def heldIn (g : Ld) (L : Loc) (f : Fr) (anc : Nat) (v : Value) (t : R) (old : List (Nat × H)) : R :=
  List.rec t (fun p _ ih => Prod.rec (fun j h => Bool.rec (g L f h fun u => Bool.rec none ih (veq u v)) ih (anc.testBit j)) p) old

/-- 'bs': the heap behind the last effect, or at the start; 'old': the heaps ahead of the effects so far -/
def drwR (call : Call) (k : KF) (l : List I) : Loc → List (Nat × H) → H → Fr → H → Nat → R :=
  List.rec (fun _ _ _ f h n => k f h n) (fun i _ ih L old bs f h n => I.rec
      (fun d g => g L f fun v => putF d v f fun f => ih (v :: L) old bs f h n)
      (fun d g anc => g L f bs fun v => heldIn g L f anc v (putF d v f fun f => ih (v :: L) old bs f h n) old)
      (fun d g => g L f (fun b mk => newB h n b fun h n' => putF d (mk n) f fun f => ih (mk n :: L) old bs f h n') (fun v => putF d v f fun f => ih (v :: L) old bs f h n))
      (fun d g ix => g call L f h n fun v h m => Bool.rec none (putF d v f fun f => ih (v :: L) ((ix, bs) :: old) h f h m) (Nat.ble n m)) i) l
def drwX (l : List I) : X := ⟨fun call kn _ _ f h n => drwR call kn l [] [] h f h n⟩

def skipX : X := ⟨fun _ kn _ _ f h n => kn f h n⟩
def seqX (a b : X) : X := ⟨fun c kn kx kr f h n => X.rec (fun ra => ra c (fun f h n => X.rec (fun rb => rb c kn kx kr f h n) b) kx kr f h n) a⟩
def condX (o : Opd) (a b : X) : X := ⟨fun c kn kx kr f h n => ev o [] f fun v => asBool v (X.rec (fun ra => ra c kn kx kr f h n) a) (X.rec (fun rb => rb c kn kx kr f h n) b)⟩
def blockX (id : Nat) (b : X) : X := ⟨fun c kn kx kr f h n => X.rec (fun rb => rb c kn (fun j f h n => Bool.rec (kx j f h n) (kn f h n) (Nat.beq j id)) kr f h n) b⟩
def loopR (r : KF → KF) (m : Nat) : KF := Nat.rec (fun _ _ _ => none) (fun _ ih f h n => r ih f h n) m
def loopXn (m : Nat) (b : X) : X := ⟨fun c _ kx kr f h n => X.rec (fun rb => loopR (fun kn => rb c kn kx kr) m f h n) b⟩
def loopX (b : X) : X := loopXn 1000000 b
def exitX (id : Nat) : X := ⟨fun _ _ kx _ f h n => kx id f h n⟩
def retX : X := ⟨fun _ _ _ kr f h n => kr f h n⟩
def noX : X := ⟨fun _ _ _ _ _ _ _ => none⟩

/-! functions -/
inductive Rv where
  | t (i : Nat)
  | c (i : Nat) (agg : Bool) (n : Nat)
inductive Fx where
  | code (np : Nat) (base : Fr) (code : X) (res : List Rv)
  | sum (run : List Value → H → Nat → KV → R)
  | no

def noTup (v : Value) (k : Value → R) : R := match v with
  | .tuple _ => none
  | v => k v
def rv1 (r : Rv) (f : Fr) (h : H) (k : Value → R) : R := Rv.rec (fun i => f.getK i (fun v => noTup v k) none) (fun i agg m => f.getK i (fun v => asPtr v fun a => loadK h a m fun l => mkV agg l k) none) r
def rvL (l : List Rv) (f : Fr) (h : H) (k : List Value → R) : R := match l with
  | [] => k []
  | r :: l => rv1 r f h fun v => rvL l f h fun vs => k (v :: vs)
def mkRet (l : List Value) : Value := match l with
  | [v] => v
  | l => .tuple ⟨l⟩
def retK (res : List Rv) (k : KV) : KF := fun f h n => rvL res f h fun vs => k (mkRet vs) h n
def lenL (l : List Value) : Nat := List.rec 0 (fun _ _ ih => Nat.succ ih) l
def runFx (fx : Fx) (call : Call) (args : List Value) (h : H) (n : Nat) (k : KV) : R := Fx.rec
  (fun np base code res => Bool.rec none (X.rec (fun run => run call (retK res k) (fun _ _ _ _ => none) (retK res k) (base.putL 0 args) h n) code) (Nat.beq (lenL args) np))
  (fun run => run args h n k) none fx
abbrev Env := Tr Fx
def fxAt (E : Env) (g : Nat) : Option Fx := E.getK g some none
def callF (ih : Call) (args : List Value) (h : H) (n : Nat) (k : KV) (fx : Fx) : R := runFx fx ih args h n k
def callS (E : Env) (_ : Nat) (ih : Call) (g : Nat) (args : List Value) (h : H) (n : Nat) (k : KV) : R := Option.rec none (callF ih args h n k) (fxAt E g)
def call0 (_ : Nat) (_ : List Value) (_ : H) (_ : Nat) (_ : KV) : R := none
def callR (E : Env) (m : Nat) : Call := Nat.rec call0 (callS E) m

end
end Go.Proofs.YtccbdaffjkdpgaaGreatDoor.Vw
namespace Go.Proofs.YtccbdaffjkdpgaaGreatDoor.Vw
noncomputable section

def idxOf (t : Nat) (l : List Nat) (i : Nat) : Option Nat := List.rec (fun _ => none) (fun a _ ih i => Bool.rec (ih (Nat.succ i)) (some i) (Nat.beq a t)) l i

def constOk (v : Value) : Bool := match v with
  | .int _ n => Int.rec (fun m => Nat.ble m 18446744073709551615) (fun _ => true) n
  | .bool _ | .string _ | .pointer none | .slice none _ _ | .map none | .nilFunc => true
  | _ => false

/-- what stands for a temporary of this region: a local (its place from the bottom), a slot, a constant -/
inductive Src where
  | p (i : Nat)
  | s (i : Nat)
  | c (v : Value)
  | no

abbrev Cx := List (Nat × Src)
def Cx.find (cx : Cx) (t : Nat) : Option Src := List.rec none (fun p _ ih => Prod.rec (fun u s => Bool.rec ih (some s) (Nat.beq u t)) p) cx

def optM {α β : Type} (f : α → Option β) (l : List α) : Option (List β) := match l with
  | [] => some []
  | a :: l => match f a with
    | none => none
    | some b => match optM f l with
      | none => none
      | some r => some (b :: r)

/-- the types, and those of arrays and structs whose values are compared cell by cell (a type, its cells) -/
structure Ty where
  t : Tr TypeInfo
  eq : List (TypeId × Nat)
  tb : Tab

section
variable (ty : Ty) (live : List Nat) (cx : Cx) (len : Nat)

def info? (t : TypeId) : Option TypeInfo := ty.t.getK t some none
def eqOf (t : TypeId) : Option Nat := List.rec none (fun p _ ih => Prod.rec (fun u m => Bool.rec ih (some m) (Nat.beq u t)) p) ty.eq
def und (t : TypeId) : Option TypeDesc := match info? ty t with
  | some i => match i.desc with
    | .named _ u => match info? ty u with
      | some j => some j.desc
      | none => none
    | d => some d
  | none => none

def copd (o : Operand) : Option Opd := match o with
  | .tmp t => match cx.find t with
    | some (.p p) => some (.l (len - 1 - p))
    | some (.s i) => some (.s i)
    | some (.c v) => some (.c v)
    | some .no => none
    | none => match idxOf t live 0 with
      | some i => some (.s i)
      | none => none
  | .const v => match constOk v with
    | true => some (.c v)
    | false => none
  | .global _ => none
  | .func f => some (.c (.func (.func f) #[] #[]))

def cot (o : Option Operand) : Option (Option Opd) := match o with
  | none => some none
  | some x => match copd live cx len x with
    | some x => some (some x)
    | none => none

def isAggD (d : TypeDesc) : Bool := match d with
  | .struct _ => true
  | .array _ _ => true
  | _ => false

def tsize (t : TypeId) : Option Nat := match info? ty t with
  | some i => some i.size
  | none => none
def tzero (t : TypeId) : Option (List Value) := match info? ty t with
  | some i => match i.zero with
    | some z => match z with
      | .agg cs => match cs.toList.all constOk with
        | true => some cs.toList
        | false => none
      | v => match constOk v with
        | true => some [v]
        | false => none
    | none => none
  | none => none
/-- elements of few bytes -/
def small (t : TypeId) : Bool := match info? ty t with
  | some i => Nat.ble i.bytes 65536
  | none => false
def tagg (t : TypeId) : Option Bool := match und ty t with
  | some d => some (isAggD d)
  | none => none

def fplace (f : Field) : Option (Nat × Nat) := match tsize ty f.type with
  | some n => some (f.offset, n)
  | none => none
def pfield (places : List (Nat × Nat)) (p : Nat × Operand) : Option (Nat × Nat × Opd) := match places[p.1]? with
  | some q => match copd live cx len p.2 with
    | some x => some (q.1, q.2, x)
    | none => none
  | none => none
def pelem (n : Nat) (p : Nat × Operand) : Option (Nat × Nat × Opd) := match copd live cx len p.2 with
  | some x => some (p.1 * n, n, x)
  | none => none
/-- where the parts of a literal go: offset, cells, operand -/
def partsOf (t : TypeId) (ps : List (Nat × Operand)) : Option (List (Nat × Nat × Opd)) :=
  match und ty t with
  | some (.struct fs) => match optM (fplace ty) fs.toList with
    | some places => optM (pfield live cx len places) ps
    | none => none
  | some (.array _ e) => match tsize ty e with
    | some n => optM (pelem live cx len n) ps
    | none => none
  | _ => none
/-- those of a slice's literal -/
def partsSl (n : Nat) (ps : List (Nat × Operand)) : Option (List (Nat × Nat × Opd)) := optM (pelem live cx len n) ps

def ceq (c : EqC) (op : BinOp) (x y : Opd) : Option Pu := match op with
  | .eql => some (eqP c false x y)
  | .neq => some (eqP c true x y)
  | _ => none
def ceqA (m : Nat) (op : BinOp) (x y : Opd) : Option Pu := match op with
  | .eql => some (eqAggP ty.tb false m x y)
  | .neq => some (eqAggP ty.tb true m x y)
  | _ => none
def cbinI (op : BinOp) (x y : Opd) : Option Pu := match op with
  | .add => some (int2 ty.tb 0 x y addG)
  | .sub => some (int2 ty.tb 1 x y subG)
  | .mul => some (int2 ty.tb 2 x y mulG)
  | .quo => some (int2 ty.tb 3 x y quoG)
  | .rem => some (int2 ty.tb 4 x y remG)
  | .and => some (int2 ty.tb 5 x y andG)
  | .or => some (int2 ty.tb 6 x y orG)
  | .xor => some (int2 ty.tb 7 x y (bitsG .xor))
  | .andNot => some (int2 ty.tb 10 x y (bitsG .andNot))
  | .shl => some (shP ty.tb true x y)
  | .shr => some (shP ty.tb false x y)
  | .eql => some (int2 ty.tb 11 x y eqG)
  | .neq => some (int2 ty.tb 12 x y neG)
  | .lss => some (int2 ty.tb 13 x y ltG)
  | .leq => some (int2 ty.tb 14 x y leG)
  | .gtr => some (int2 ty.tb 15 x y gtG)
  | .geq => some (int2 ty.tb 16 x y geG)
def cbin (op : BinOp) (t : TypeId) (x y : Opd) : Option Pu := match und ty t with
  | some (.int _) => cbinI ty op x y
  | some (.array _ _) | some (.struct _) => match eqOf ty t with
    | some m => ceqA ty m op x y
    | none => none
  | some .string => some (strP op x y)
  | some .bool => ceq .b op x y
  | some (.pointer _) => ceq .p op x y
  | some (.slice _) => ceq .s op x y
  | some (.func _ _ _) => ceq .f op x y
  | _ => none

def cP_move (x : Operand) : Option Pu := match copd live cx len x with
    | some x => some (movP x)
    | none => none
def cP_pick (c : Operand) (a : Operand) (b : Operand) : Option Pu := match copd live cx len c, copd live cx len a, copd live cx len b with
    | some c, some a, some b => some (pickP c a b)
    | _, _, _ => none
def cP_build (t : TypeId) (ps : Array (Nat × Operand)) : Option Pu := match tzero ty t, tagg ty t, partsOf ty live cx len t ps.toList with
    | some z, some true, some ps => some (buildP z ps)
    | _, _, _ => none
def cP_nilCheck (x : Operand) : Option Pu := match copd live cx len x with
    | some x => some (nilckP x)
    | none => none
def cP_binOp (op : BinOp) (t : TypeId) (x : Operand) (y : Operand) : Option Pu := match copd live cx len x, copd live cx len y with
    | some x, some y => cbin ty op t x y
    | _, _ => none
def cP_unOp (op : UnOp) (x : Operand) : Option Pu := match copd live cx len x with
    | some x => some (unP op x)
    | none => none
def cP_convert (s : TypeId) (d : TypeId) (x : Operand) : Option Pu := match und ty s, und ty d, copd live cx len x with
    | some (.int _), some (.int k), some x => some (convP ty.tb k x)
    | some .string, some .string, some x => some (sidP x)
    | _, _, _ => none
def cP_makeFunc (fn : Fn) (first : Array Operand) (captured : Array Operand) : Option Pu := match fn, first.toList with
    | .func f, [] => match optM (copd live cx len) captured.toList with
      | some b => some (mkfP f b)
      | _ => none
    | _, _ => none
def cP_slice (t : TypeId) (x : Operand) (lo : Option Operand) (hi : Option Operand) (mx : Option Operand) : Option Pu := match und ty t, copd live cx len x, cot live cx len lo, cot live cx len hi, cot live cx len mx with
    | _, _, _, some none, some (some _) => none
    | some (.slice e), some x, some lo, some hi, some mx => (match tsize ty e with | some n => some (slSlP n x lo hi mx) | none => none)
    | some (.array m e), some x, some lo, some hi, some mx => (match tsize ty e, Nat.ble m 1048576 with | some n, true => some (slArrP m n x lo hi mx) | _, _ => none)
    | some .string, some x, some lo, some hi, some none => some (slStrP x lo hi)
    | _, _, _, _, _ => none
def cP_fieldAddr (t : TypeId) (x : Operand) (f : Nat) : Option Pu := match und ty t, copd live cx len x with
    | some (.struct fs), some x => (match fs.toList[f]? with
      | some f => (match tsize ty f.type with | some (_ + 1) => some (fadP f.offset x) | _ => none)
      | none => none)
    | _, _ => none
def cP_field (t : TypeId) (x : Operand) (f : Nat) : Option Pu := match und ty t, copd live cx len x with
    | some (.struct fs), some x => (match fs.toList[f]? with
      | some f => (match tagg ty f.type, tsize ty f.type with | some ag, some n => some (fldP ag f.offset n x) | _, _ => none)
      | none => none)
    | _, _ => none
def cP_indexAddr (t : TypeId) (x : Operand) (i : Operand) : Option Pu := match und ty t, copd live cx len x, copd live cx len i with
    | some (.array m e), some x, some i => (match tsize ty e with | some n => some (iadArrP m n x i) | none => none)
    | some (.slice e), some x, some i => (match tsize ty e with | some n => some (iadSlP n x i) | none => none)
    | _, _, _ => none
def cP_index (t : TypeId) (x : Operand) (i : Operand) : Option Pu := match und ty t, copd live cx len x, copd live cx len i with
    | some (.array m e), some x, some i => (match tagg ty e, tsize ty e with | some ag, some n => some (idxArrP ag m n x i) | _, _ => none)
    | some .string, some x, some i => some (idxStrP x i)
    | _, _, _ => none
def cP_extract (x : Operand) (k : Nat) : Option Pu := match copd live cx len x with
    | some x => some (extP x k)
    | none => none
def cP_call (c : Go.Call) : Option Pu := match c.callee with
    | .builtin b => match c.argTypes.toList, c.args.toList with
      | [t], [x] => match und ty t, copd live cx len x, b with
        | some (.slice _), some x, .len => some (lenSlP x)
        | some .string, some x, .len => some (lenStrP x)
        | some (.array n _), some _, .len => some (lenArrP n)
        | _, _, _ => none
      | [t, _], [x, y] => match und ty t, copd live cx len x, copd live cx len y, b with
        | some (.int _), some x, some y, .max => some (mmP ty.tb true x y)
        | some (.int _), some x, some y, .min => some (mmP ty.tb false x y)
        | _, _, _, _ => none
      | _, _ => none
    | _ => none
def cP (op : Op) : Option Pu := match op with
  | .move x | .assign x => cP_move live cx len x
  | .pick c a b => cP_pick live cx len c a b
  | .build t ps => cP_build ty live cx len t ps
  | .nilCheck x => cP_nilCheck live cx len x
  | .binOp op t x y _ => cP_binOp ty live cx len op t x y
  | .unOp op _ x => cP_unOp live cx len op x
  | .convert s d x => cP_convert ty live cx len s d x
  | .makeFunc fn first captured => cP_makeFunc live cx len fn first captured
  | .slice t x lo hi mx => cP_slice ty live cx len t x lo hi mx
  | .fieldAddr t x f => cP_fieldAddr ty live cx len t x f
  | .field t x f => cP_field ty live cx len t x f
  | .indexAddr t x i => cP_indexAddr ty live cx len t x i
  | .index t x i => cP_index ty live cx len t x i
  | .extract x k => cP_extract live cx len x k
  | .call c => cP_call ty live cx len c
  | _ => none

def cL_load (t : TypeId) (x : Operand) : Option Ld := match tagg ty t, tsize ty t, copd live cx len x with
    | some true, some n, some x => some (ldL n x)
    | some false, some _, some x => some (ld1L x)
    | _, _, _ => none
def cL_convert (s : TypeId) (d : TypeId) (x : Operand) : Option Ld := match und ty s, und ty d, copd live cx len x with
    | some (.slice e), some .string, some x => (match und ty e with | some (.int .u8) => some (b2sL x) | _ => none)
    | _, _, _ => none
def cL_lookup (t : TypeId) (x : Operand) (i : Operand) (ok : Bool) : Option Ld := match und ty t, copd live cx len x, copd live cx len i with
    | some (.map k e), some x, some i => (match eqOf ty k, info? ty e with
      | some m, some inf => (match inf.zero with
        | some z => (match constOk z with
          | true => some (lookM ok z m x i)
          | false => none)
        | none => none)
      | _, _ => none)
    | _, _, _ => none
def cL (op : Op) : Option Ld := match op with
  | .load t x => cL_load ty live cx len t x
  | .convert s d x => cL_convert ty live cx len s d x
  | .lookup t x i ok => cL_lookup ty live cx len t x i ok
  | _ => none

def cA_alloc (t : TypeId) : Option Al := match tsize ty t, tzero ty t, tagg ty t with
    | some n, some z, some true => some (boxA t n (.c (.agg ⟨z⟩)))
    | some n, some z, some false => (match z with | [z] => some (boxA t n (.c z)) | _ => none)
    | _, _, _ => none
def cA_box (t : TypeId) (x : Operand) : Option Al := match tsize ty t, copd live cx len x with
    | some n, some x => some (boxA t n x)
    | _, _ => none
def cA_buildSlice (t : TypeId) (n : Nat) (ps : Array (Nat × Operand)) : Option Al := match und ty t with
    | some (.slice e) => match tzero ty e, tsize ty e with
      | some z, some m => match Nat.beq z.length m, Nat.ble (n * m) 16777216, Nat.ble n 16777216, partsSl live cx len m ps.toList with
        | true, true, true, some ps => some (buildSlA e (repl z n) n ps)
        | _, _, _, _ => none
      | _, _ => none
    | _ => none
def cA_convert (s : TypeId) (d : TypeId) (x : Operand) : Option Al := match und ty s, und ty d, copd live cx len x with
    | some (.slice _), some (.slice e), some x => (match und ty e with | some (.int .u8) => (match Nat.beq s d with | true => some (frzA x) | false => none) | _ => none)
    | _, _, _ => none
def cA_makeMap (r : Option Operand) : Option Al := match r with
    | none => some mkmA
    | some _ => none
def cA (op : Op) : Option Al := match op with
  | .alloc t => cA_alloc ty t
  | .box t x => cA_box ty live cx len t x
  | .buildSlice t n ps => cA_buildSlice ty live cx len t n ps
  | .convert s d x => cA_convert ty live cx len s d x
  | .makeMap _ r => cA_makeMap r
  | _ => none

def cE_store (t : TypeId) (x : Operand) (v : Operand) : Option Ef := match tsize ty t, copd live cx len x, copd live cx len v with
    | some n, some x, some v => some (stE n x v)
    | _, _, _ => none
def cE_call (c : Go.Call) : Option Ef := match c.callee with
    | .value f => match copd live cx len f, optM (copd live cx len) c.args.toList with
      | some f, some l => some (callE f l)
      | _, _ => none
    | .builtin b => match c.argTypes.toList, c.args.toList with
      | [t], [x] => match und ty t, copd live cx len x, b with
        | some (.slice e), some x, .clear => (match tzero ty e with | some z => some (clrE z x) | none => none)
        | _, _, _ => none
      | [t, u], [x, y] => match und ty t, und ty u, copd live cx len x, copd live cx len y with
        | some (.slice e), some d, some x, some y => match tsize ty e, tzero ty e, b, d with
          | some (n + 1), some z, .append, .slice _ => (match Nat.beq z.length (n + 1), small ty e with | true, true => some (appE e (n + 1) x y) | _, _ => none)
          | some 1, some z, .append, .string => (match Nat.beq z.length 1, small ty e with | true, true => some (appE e 1 x y) | _, _ => none)
          | some (n + 1), some z, .append, .int _ => (match Nat.beq z.length (n + 1), small ty e with | true, true => some (appZE e (n + 1) z x y) | _, _ => none)
          | some n, _, .copy, .slice _ => some (cpyE n x y)
          | some 1, _, .copy, .string => some (cpyE 1 x y)
          | _, _, _, _ => none
        | _, _, _, _ => none
      | _, _ => none
    | _ => none
def cE (op : Op) : Option Ef := match op with
  | .store t x v => cE_store ty live cx len t x v
  | .call c => cE_call ty live cx len c
  | _ => none

inductive Cls where
  | p | l | a | e

def cls (op : Op) : Cls := match op with
  | .load .. | .lookup .. => .l
  | .convert s d _ => match und ty s, und ty d with
    | some (.slice _), some .string => .l
    | some .string, some (.slice _) => .a
    | some (.slice _), some (.slice _) => .a
    | _, _ => .p
  | .alloc _ | .box .. | .buildSlice .. | .makeMap .. | .makeSlice .. => .a
  | .store .. => .e
  | .call c => match c.callee with
    | .builtin .len | .builtin .min | .builtin .max => .p
    | _ => .e
  | _ => .p

def badI : I := .pu none badP

/-- the guard, made an operand -/
def cgd (ops : List Oper) (g : Option (Nat × Bool)) : Option (Option (Opd × Bool)) := match g with
  | none => some none
  | some (j, b) => match ops[j]? with
    | some o => match o.dst with
      | some t => match copd live cx len (.tmp t) with
        | some x => some (some (x, b))
        | none => none
      | none => none
    | none => none

def cI_p (g : Option (Opd × Bool)) (o : Oper) (d : Option Nat) : I := match cP ty live cx len o.op with
  | some x => (match g with | none => .pu d x | some (c, b) => .pu d (gdP c b x))
  | none => badI
def cI_l (g : Option (Opd × Bool)) (o : Oper) (d : Option Nat) (anc : Nat) : I := match cL ty live cx len o.op with
  | some x => (match g with | none => .ld d x anc | some (c, b) => .ld d (gdL c b x) anc)
  | none => badI
def cI_a (g : Option (Opd × Bool)) (o : Oper) (d : Option Nat) : I := match cA ty live cx len o.op with
  | some x => (match g with | none => .al d x | some (c, b) => .al d (gdA c b x))
  | none => badI
def cI_e (g : Option (Opd × Bool)) (o : Oper) (d : Option Nat) (ix : Nat) : I := match cE ty live cx len o.op with
  | some x => (match g with | none => .ef d x ix | some (c, b) => .ef d (gdE c b x) ix)
  | none => badI
def cI (ops : List Oper) (o : Oper) (d : Option Nat) (anc ix : Nat) : I := match cgd live cx len ops o.guard with
  | none => badI
  | some g => match cls ty o.op with
    | .p => cI_p ty live cx len g o d
    | .l => cI_l ty live cx len g o d anc
    | .a => cI_a ty live cx len g o d
    | .e => cI_e ty live cx len g o d ix
end

/-- an operation with its number and what it waits for -/
structure Og where
  o : Oper
  ix : Nat
  anc : Nat

def ogs (l : List Oper) (anc : List Nat) (i : Nat) : List Og := match l with
  | [] => []
  | o :: r => match anc with
    | a :: m => ⟨o, i, a⟩ :: ogs r m (i + 1)
    | [] => ⟨o, i, 0⟩ :: ogs r [] (i + 1)

def isE (c : Cls) : Bool := match c with
  | .e => true
  | _ => false

/-- the order in which a drawn region is run here: ahead of each effect what it waits for alone, the rest at the end -/
def order (ty : Ty) (l : List Og) (es : List Og) (done : Nat) : List Og := match es with
  | [] => l.filter fun c => !done.testBit c.ix
  | e :: es => match isE (cls ty e.o.op) with
    | true => (l.filter fun c => e.anc.testBit c.ix && !done.testBit c.ix) ++ e :: order ty l es (done ||| e.anc ||| 2 ^ e.ix)
    | false => order ty l es done

/-- does a later operation of this region write the slot? -/
def written (live : List Nat) (i : Nat) (l : List Oper) : Bool := match l with
  | [] => false
  | o :: r => match o.dst with
    | some t => match idxOf t live 0 with
      | some j => match Nat.beq i j with
        | true => true
        | false => written live i r
      | none => written live i r
    | none => written live i r

/-- a move that is none here: its temporary is read in this region alone, and what it moves stays -/
def alias (live : List Nat) (cx : Cx) (len : Nat) (o : Oper) (r : List Oper) : Option (Nat × Src) := match o.op, o.guard, o.dst with
  | .move x, none, some t => match idxOf t live 0 with
    | some _ => none
    | none => match copd live cx len x with
      | some (.l k) => some (t, .p (len - 1 - k))
      | some (.s i) => match written live i r with
        | true => none
        | false => some (t, .s i)
      | some (.c v) => some (t, .c v)
      | none => none
  | _, _, _ => none

def dslot (live : List Nat) (d : Option Nat) : Option Nat := match d with
  | some t => idxOf t live 0
  | none => none

def ext (cx : Cx) (d : Option Nat) (len : Nat) : Cx := match d with
  | some t => (t, .p len) :: cx
  | none => cx

/-- a region that is run as it stands -/
def cReg (ty : Ty) (live : List Nat) (nt : Nat) (ops : List Oper) (l : List Oper) (cx : Cx) (len : Nat) : List I := match l with
  | [] => []
  | o :: r => match alias live cx len o r with
    | some p => cReg ty live nt ops r (p :: cx) len
    | none => cI ty live cx len ops o (dslot live o.dst) 0 0 :: cReg ty live nt ops r (ext cx o.dst len) (len + 1)

/-- what stands for the temporaries of a region that draws its order: those that are surely there (a temporary, its operation, its place); those that are surely not (a temporary, what its operation waits for) -/
def cxA (ws : List (Nat × Nat)) (ix anc : Nat) (l : List (Nat × Nat × Nat)) : Cx := List.rec (List.rec [] (fun w _ ih => Bool.rec ((w.1, .no) :: ih) ih (w.2.testBit ix)) ws)
  (fun x _ ih => (x.1, Bool.rec .no (.p x.2.2) (anc.testBit x.2.1)) :: ih) l
def extA (cx : List (Nat × Nat × Nat)) (d : Option Nat) (ix len : Nat) : List (Nat × Nat × Nat) := match d with
  | some t => (t, ix, len) :: cx
  | none => cx

/-- a region that draws its order -/
def cDrw (ty : Ty) (live : List Nat) (ops : List Oper) (ws : List (Nat × Nat)) (l : List Og) (cx : List (Nat × Nat × Nat)) (len : Nat) : List I := match l with
  | [] => []
  | g :: r => cI ty live (cxA ws g.ix g.anc cx) len ops g.o (dslot live g.o.dst) g.anc g.ix :: cDrw ty live ops ws r (extA cx g.o.dst g.ix len) (len + 1)

/-- behind what each waits for; an effect waits for all ahead of it -/
def ordOk (ty : Ty) (l : List Og) (m : Nat) : Bool := match l with
  | [] => true
  | c :: r => match Nat.beq (Nat.land c.anc m) c.anc with
    | false => false
    | true => match isE (cls ty c.o.op) with
      | true => match Nat.beq (Nat.land c.anc m) m with
        | true => ordOk ty r (m ||| 2 ^ c.ix)
        | false => false
      | false => ordOk ty r (m ||| 2 ^ c.ix)

def dstsOk (nt : Nat) (l : List Oper) : Bool := match l with
  | [] => true
  | o :: r => match o.dst with
    | some t => match Nat.ble (t + 1) nt with
      | true => dstsOk nt r
      | false => false
    | none => dstsOk nt r

def nodupN (l : List Nat) : Bool := match l with
  | [] => true
  | a :: l => match idxOf a l 0 with
    | some _ => false
    | none => nodupN l

/-- every operation once -/
def once (l : List Og) (n : Nat) : Bool := match Nat.beq l.length n with
  | true => nodupN (l.map (·.ix))
  | false => false

/-- the temporaries that are written, and what their operations wait for -/
def wsOf (l : List Og) : List (Nat × Nat) := l.filterMap fun g => match g.o.dst with
  | some t => some (t, g.anc)
  | none => none

def draws (ty : Ty) (ops : List Oper) (anc : List Nat) : List Og := order ty (ogs ops anc 0) (ogs ops anc 0) 0

/-- what each operation waits for -/
def bindsK (e : Edge) : Bool := match e.ground with
  | .textOnly _ => false
  | .gcOnly _ => false
  | _ => true
def befE (acc : Tr Nat) (l : List Edge) : Nat → Nat := List.rec (fun s => s) (fun e _ ih s => Bool.rec (ih s) (forceN (Nat.lor (Nat.lor s (Nat.pow 2 e.on)) (acc.getK e.on (fun m => m) 0)) ih) (bindsK e)) l
def befs (l : List Oper) : Nat → Tr Nat → List Nat := List.rec (fun _ _ => []) (fun o _ ih i acc => forceN (befE acc o.after.toList 0) fun m => m :: ih (Nat.succ i) (acc.put i m)) l

def ccode (ty : Ty) (live : List Nat) (nt : Nat) (c : Code) : X := match c with
  | .skip => skipX
  | .region _ ops draw => match dstsOk nt ops.toList with
    | false => noX
    | true => match draw with
      | true => match ordOk ty (draws ty ops.toList (befs ops.toList 0 .e)) 0, once (draws ty ops.toList (befs ops.toList 0 .e)) ops.toList.length, nodupN (ops.toList.filterMap (·.dst)) with
        | true, true, true => drwX (cDrw ty live ops.toList (wsOf (draws ty ops.toList (befs ops.toList 0 .e))) (draws ty ops.toList (befs ops.toList 0 .e)) [] 0)
        | _, _, _ => noX
      | false => regX (cReg ty live nt ops.toList ops.toList [] 0)
  | .seq a b => seqX (ccode ty live nt a) (ccode ty live nt b)
  | .cond c a b => match copd live [] 0 c with
    | some x => condX x (ccode ty live nt a) (ccode ty live nt b)
    | none => noX
  | .block id b => blockX id (ccode ty live nt b)
  | .loop b => loopX (ccode ty live nt b)
  | .exit id => exitX id
  | .ret => retX
  | _ => noX

/-! which temporaries are read elsewhere than in the region that sets them (a hint: nothing leans on its being right) -/
def readsOf (o : Oper) (ops : List Oper) : List Nat :=
  (match o.guard with
   | some (j, _) => (match ops[j]? with | some p => p.dst.toList | none => [])
   | none => []) ++ o.op.operands.toList.filterMap fun x => match x with | .tmp t => some t | _ => none
def addN (t : Nat) (l : List Nat) : List Nat := match idxOf t l 0 with
  | some _ => l
  | none => l ++ [t]
def liveOps (ops : List Oper) (l : List Oper) (ts : List Nat) (live : List Nat) : List Nat := match l with
  | [] => live
  | o :: r => liveOps ops r (match o.dst with | some t => t :: ts | none => ts) ((readsOf o ops).foldl (fun live t => match idxOf t ts 0 with | some _ => live | none => addN t live) live)
def liveCode (ty : Ty) (c : Code) (live : List Nat) : List Nat := match c with
  | .region _ ops draw => match draw with
    | true => liveOps ops.toList ((draws ty ops.toList (befs ops.toList 0 .e)).map (·.o)) [] live
    | false => liveOps ops.toList ops.toList [] live
  | .seq a b => liveCode ty b (liveCode ty a live)
  | .cond c a b => liveCode ty b (liveCode ty a (match c with | .tmp t => addN t live | _ => live))
  | .block _ b => liveCode ty b live
  | .loop b => liveCode ty b live
  | _ => live

def upto (n : Nat) : List Nat := List.range n

def cres (ty : Ty) (live : List Nat) (r : ResultVar) : Option Rv := match r with
  | .tmp t => match idxOf t live 0 with
    | some i => some (.t i)
    | none => none
  | .cell t u => match idxOf t live 0, tagg ty u, tsize ty u with
    | some i, some ag, some n => some (.c i ag n)
    | _, _, _ => none

/-- the first slots are the parameters'; all are of temporaries that there are -/
def prefOk (l : List Nat) (i np nt : Nat) : Bool := match l with
  | [] => Nat.ble np i
  | t :: r => match Nat.ble (t + 1) nt with
    | false => false
    | true => match Nat.ble np i with
      | true => prefOk r (i + 1) np nt
      | false => match Nat.beq t i with
        | true => prefOk r (i + 1) np nt
        | false => false

/-- a function compiled, 'live' its temporaries that have slots (the parameters first) -/
def cfunL (ty : Ty) (fn : Func) (live : List Nat) : Fx := match fn.body with
  | none => .no
  | some b => match optM (cres ty live) fn.results.toList, prefOk live 0 (fn.params.size + fn.nfree) fn.ntmps with
    | some res, true => .code (fn.params.size + fn.nfree) (Tr.putL .e 0 (live.map fun _ => .tuple #[])) (ccode ty live fn.ntmps b) res
    | _, _ => .no

def liveOf (ty : Ty) (fn : Func) : List Nat := match fn.body with
  | none => []
  | some b => liveCode ty b (fn.results.toList.foldl (fun l r => match r with | .tmp t => addN t l | .cell t _ => addN t l) (upto (fn.params.size + fn.nfree)))

def cfun (ty : Ty) (fn : Func) : Fx := cfunL ty fn (liveOf ty fn)

def tyOf (P : Program) (eq : List (TypeId × Nat)) (tb : Tab) : Ty := ⟨Tr.putL .e 0 P.types.toList, eq, tb⟩
def envOf (P : Program) (eq : List (TypeId × Nat)) (tb : Tab) : Env := Tr.putL .e 0 (P.funcs.toList.map (cfun (tyOf P eq tb)))
/-- the same, the slots of each function being told -/
def zipF (ty : Ty) (l : List Func) : List (List Nat) → List Fx := List.rec (fun _ => []) (fun fn _ ih lv => List.rec (Fx.no :: ih []) (fun v r _ => cfunL ty fn v :: ih r) lv) l
def envL (P : Program) (eq : List (TypeId × Nat)) (tb : Tab) (lv : List (List Nat)) : Env := Tr.putL .e 0 (zipF (tyOf P eq tb) P.funcs.toList lv)
end
end Go.Proofs.YtccbdaffjkdpgaaGreatDoor.Vw
namespace Go.Proofs.YtccbdaffjkdpgaaGreatDoor.Vw

/-- what stands at a number -/
noncomputable def Tr.at {α : Type} (t : Tr α) (i : Nat) : Option α := t.getK i some none

/-- a row of a table -/
def Tr.has (T : Tab) (w : Row) : Prop := ∃ i l, T.at i = some l ∧ w ∈ l

section
variable {α β : Type}

theorem Tr.getK_e (i : Nat) (k : α → β) (d : β) : (Tr.e : Tr α).getK i k d = d := rfl
theorem Tr.getK_0 (v : α) (l r : Tr α) (k : α → β) (d : β) : (Tr.nd v l r).getK 0 k d = k v := rfl
theorem Tr.getK_odd (v : α) (l r : Tr α) (j : Nat) (k : α → β) (d : β) (h : j % 2 = 0) : (Tr.nd v l r).getK (j + 1) k d = l.getK (j / 2) k d := by
  have e : Nat.land j 1 = 0 := by show j &&& 1 = 0; rw [Nat.and_one_is_mod]; exact h
  show @Nat.rec (fun _ => β) (l.getK (Nat.div j 2) k d) (fun _ _ => r.getK (Nat.div j 2) k d) (Nat.land j 1) = _
  rw [e]
  rfl
theorem Tr.getK_even (v : α) (l r : Tr α) (j : Nat) (k : α → β) (d : β) (h : j % 2 = 1) : (Tr.nd v l r).getK (j + 1) k d = r.getK (j / 2) k d := by
  have e : Nat.land j 1 = 1 := by show j &&& 1 = 1; rw [Nat.and_one_is_mod]; exact h
  show @Nat.rec (fun _ => β) (l.getK (Nat.div j 2) k d) (fun _ _ => r.getK (Nat.div j 2) k d) (Nat.land j 1) = _
  rw [e]
  rfl

theorem Tr.getK_eq (t : Tr α) : ∀ (i : Nat) (k : α → β) (d : β), t.getK i k d = match t.at i with | some v => k v | none => d := by
  induction t with
  | e => intro i k d; rfl
  | nd v l r ihl ihr =>
    intro i k d
    cases i with
    | zero => rfl
    | succ j =>
      rcases Nat.mod_two_eq_zero_or_one j with h | h
      · rw [Tr.getK_odd v l r j k d h, ihl]
        unfold Tr.at
        rw [Tr.getK_odd v l r j _ _ h]
      · rw [Tr.getK_even v l r j k d h, ihr]
        unfold Tr.at
        rw [Tr.getK_even v l r j _ _ h]

theorem Tr.at_e (i : Nat) : (Tr.e : Tr α).at i = none := rfl
theorem Tr.at_0 (v : α) (l r : Tr α) : (Tr.nd v l r).at 0 = some v := rfl
theorem Tr.at_odd (v : α) (l r : Tr α) (j : Nat) (h : j % 2 = 0) : (Tr.nd v l r).at (j + 1) = l.at (j / 2) := Tr.getK_odd v l r j _ _ h
theorem Tr.at_even (v : α) (l r : Tr α) (j : Nat) (h : j % 2 = 1) : (Tr.nd v l r).at (j + 1) = r.at (j / 2) := Tr.getK_even v l r j _ _ h

theorem Tr.put_e (i : Nat) (v : α) : (Tr.e : Tr α).put i v = .nd v .e .e := rfl
theorem Tr.put_0 (u v : α) (l r : Tr α) : (Tr.nd u l r).put 0 v = .nd v l r := rfl
theorem Tr.put_ne (t : Tr α) (i : Nat) (v : α) : ∃ a b c, t.put i v = .nd a b c := by
  induction t generalizing i with
  | e => exact ⟨_, _, _, rfl⟩
  | nd u l r ihl ihr =>
    cases i with
    | zero => exact ⟨_, _, _, rfl⟩
    | succ j =>
      rcases Nat.mod_two_eq_zero_or_one j with h | h
      · have e : Nat.land j 1 = 0 := by show j &&& 1 = 0; rw [Nat.and_one_is_mod]; exact h
        obtain ⟨a, b, c, hh⟩ := ihl (j / 2)
        have e2 : (Tr.nd u l r).put (j + 1) v = @Nat.rec (fun _ => Tr α) (@Tr.rec α (fun _ => Tr α) .e (fun a b c _ _ => .nd u (.nd a b c) r) (l.put (Nat.div j 2) v)) (fun _ _ => @Tr.rec α (fun _ => Tr α) .e (fun a b c _ _ => .nd u l (.nd a b c)) (r.put (Nat.div j 2) v)) (Nat.land j 1) := rfl
        rw [e2, e]
        have e3 : l.put (Nat.div j 2) v = .nd a b c := hh
        refine ⟨u, .nd a b c, r, ?_⟩
        show @Tr.rec α (fun _ => Tr α) .e (fun a b c _ _ => .nd u (.nd a b c) r) (l.put (Nat.div j 2) v) = _
        rw [e3]
      · have e : Nat.land j 1 = 1 := by show j &&& 1 = 1; rw [Nat.and_one_is_mod]; exact h
        obtain ⟨a, b, c, hh⟩ := ihr (j / 2)
        have e2 : (Tr.nd u l r).put (j + 1) v = @Nat.rec (fun _ => Tr α) (@Tr.rec α (fun _ => Tr α) .e (fun a b c _ _ => .nd u (.nd a b c) r) (l.put (Nat.div j 2) v)) (fun _ _ => @Tr.rec α (fun _ => Tr α) .e (fun a b c _ _ => .nd u l (.nd a b c)) (r.put (Nat.div j 2) v)) (Nat.land j 1) := rfl
        rw [e2, e]
        have e3 : r.put (Nat.div j 2) v = .nd a b c := hh
        refine ⟨u, l, .nd a b c, ?_⟩
        show @Tr.rec α (fun _ => Tr α) .e (fun a b c _ _ => .nd u l (.nd a b c)) (r.put (Nat.div j 2) v) = _
        rw [e3]
theorem Tr.put_odd (u v : α) (l r : Tr α) (j : Nat) (h : j % 2 = 0) : (Tr.nd u l r).put (j + 1) v = .nd u (l.put (j / 2) v) r := by
  have e : Nat.land j 1 = 0 := by show j &&& 1 = 0; rw [Nat.and_one_is_mod]; exact h
  have e2 : (Tr.nd u l r).put (j + 1) v = @Nat.rec (fun _ => Tr α) (@Tr.rec α (fun _ => Tr α) .e (fun a b c _ _ => .nd u (.nd a b c) r) (l.put (Nat.div j 2) v)) (fun _ _ => @Tr.rec α (fun _ => Tr α) .e (fun a b c _ _ => .nd u l (.nd a b c)) (r.put (Nat.div j 2) v)) (Nat.land j 1) := rfl
  rw [e2, e]
  obtain ⟨a, b, c, hh⟩ := Tr.put_ne l (j / 2) v
  have e3 : l.put (Nat.div j 2) v = .nd a b c := hh
  show @Tr.rec α (fun _ => Tr α) .e (fun a b c _ _ => .nd u (.nd a b c) r) (l.put (Nat.div j 2) v) = _
  rw [e3, hh]
theorem Tr.put_even (u v : α) (l r : Tr α) (j : Nat) (h : j % 2 = 1) : (Tr.nd u l r).put (j + 1) v = .nd u l (r.put (j / 2) v) := by
  have e : Nat.land j 1 = 1 := by show j &&& 1 = 1; rw [Nat.and_one_is_mod]; exact h
  have e2 : (Tr.nd u l r).put (j + 1) v = @Nat.rec (fun _ => Tr α) (@Tr.rec α (fun _ => Tr α) .e (fun a b c _ _ => .nd u (.nd a b c) r) (l.put (Nat.div j 2) v)) (fun _ _ => @Tr.rec α (fun _ => Tr α) .e (fun a b c _ _ => .nd u l (.nd a b c)) (r.put (Nat.div j 2) v)) (Nat.land j 1) := rfl
  rw [e2, e]
  obtain ⟨a, b, c, hh⟩ := Tr.put_ne r (j / 2) v
  have e3 : r.put (Nat.div j 2) v = .nd a b c := hh
  show @Tr.rec α (fun _ => Tr α) .e (fun a b c _ _ => .nd u l (.nd a b c)) (r.put (Nat.div j 2) v) = _
  rw [e3, hh]

/-- A tree without gaps, of so many. -/
def Sz (t : Tr α) (n : Nat) : Prop := ∀ i, (t.at i).isSome = true ↔ i < n

theorem Sz.e : Sz (Tr.e : Tr α) 0 := fun i => by rw [Tr.at_e]; simp
theorem Sz.left {v : α} {l r : Tr α} {n : Nat} (h : Sz (.nd v l r) n) : Sz l (n / 2) := fun i => by
  have h1 := h (2 * i + 1)
  rw [Tr.at_odd v l r (2 * i) (by omega), show 2 * i / 2 = i by omega] at h1
  rw [h1]; omega
theorem Sz.right {v : α} {l r : Tr α} {n : Nat} (h : Sz (.nd v l r) n) : Sz r ((n - 1) / 2) := fun i => by
  have h1 := h (2 * i + 1 + 1)
  rw [Tr.at_even v l r (2 * i + 1) (by omega), show (2 * i + 1) / 2 = i by omega] at h1
  rw [h1]; omega
theorem Sz.pos {v : α} {l r : Tr α} {n : Nat} (h : Sz (.nd v l r) n) : 0 < n := (h 0).1 rfl
theorem Sz.mk {v : α} {l r : Tr α} {n : Nat} (hn : 0 < n) (hl : Sz l (n / 2)) (hr : Sz r ((n - 1) / 2)) : Sz (.nd v l r) n := fun i => by
  cases i with
  | zero => exact ⟨fun _ => hn, fun _ => rfl⟩
  | succ j =>
    rcases Nat.mod_two_eq_zero_or_one j with h | h
    · rw [Tr.at_odd v l r j h, hl]; omega
    · rw [Tr.at_even v l r j h, hr]; omega

theorem Sz.put {t : Tr α} {n : Nat} (h : Sz t n) (i : Nat) (hi : i ≤ n) (v : α) : Sz (t.put i v) (max n (i + 1)) ∧ ∀ j, (t.put i v).at j = if j = i then some v else t.at j := by
  induction t generalizing i n with
  | e =>
    have h0 : n = 0 := by
      rcases Nat.eq_zero_or_pos n with h0 | h0
      · exact h0
      · have := (h 0).2 h0; simp [Tr.at_e] at this
    subst h0
    have hi0 : i = 0 := by omega
    subst hi0
    refine ⟨Sz.mk (by simp) ?_ ?_, fun j => ?_⟩
    · exact Sz.e
    · exact Sz.e
    · rw [Tr.put_e]
      cases j with
      | zero => rfl
      | succ j =>
        rw [if_neg (by omega), Tr.at_e]
        rcases Nat.mod_two_eq_zero_or_one j with h | h
        · rw [Tr.at_odd _ _ _ j h]; rfl
        · rw [Tr.at_even _ _ _ j h]; rfl
  | nd u l r ihl ihr =>
    have hn := h.pos
    cases i with
    | zero =>
      rw [Tr.put_0]
      refine ⟨?_, fun j => ?_⟩
      · rw [show max n (0 + 1) = n by omega]; exact Sz.mk hn h.left h.right
      · cases j with
        | zero => rfl
        | succ j =>
          rw [if_neg (by omega)]
          rcases Nat.mod_two_eq_zero_or_one j with h | h
          · rw [Tr.at_odd _ _ _ j h, Tr.at_odd _ _ _ j h]
          · rw [Tr.at_even _ _ _ j h, Tr.at_even _ _ _ j h]
    | succ i =>
      rcases Nat.mod_two_eq_zero_or_one i with hp | hp
      · rw [Tr.put_odd u v l r i hp]
        obtain ⟨h1, h2⟩ := ihl h.left (i / 2) (by omega)
        refine ⟨Sz.mk (by omega) ?_ ?_, fun j => ?_⟩
        · have e : max n (i + 1 + 1) / 2 = max (n / 2) (i / 2 + 1) := by omega
          rw [e]; exact h1
        · have e : (max n (i + 1 + 1) - 1) / 2 = (n - 1) / 2 := by omega
          rw [e]; exact h.right
        · cases j with
          | zero => rfl
          | succ j =>
            rcases Nat.mod_two_eq_zero_or_one j with hj | hj
            · rw [Tr.at_odd _ _ _ j hj, Tr.at_odd _ _ _ j hj, h2]
              by_cases e : j = i
              · subst e; simp
              · rw [if_neg (by omega), if_neg (by omega)]
            · rw [Tr.at_even _ _ _ j hj, Tr.at_even _ _ _ j hj, if_neg (by omega)]
      · rw [Tr.put_even u v l r i hp]
        obtain ⟨h1, h2⟩ := ihr h.right (i / 2) (by omega)
        refine ⟨Sz.mk (by omega) ?_ ?_, fun j => ?_⟩
        · have e : max n (i + 1 + 1) / 2 = n / 2 := by omega
          rw [e]; exact h.left
        · have e : (max n (i + 1 + 1) - 1) / 2 = max ((n - 1) / 2) (i / 2 + 1) := by omega
          rw [e]; exact h1
        · cases j with
          | zero => rfl
          | succ j =>
            rcases Nat.mod_two_eq_zero_or_one j with hj | hj
            · rw [Tr.at_odd _ _ _ j hj, Tr.at_odd _ _ _ j hj, if_neg (by omega)]
            · rw [Tr.at_even _ _ _ j hj, Tr.at_even _ _ _ j hj, h2]
              by_cases e : j = i
              · subst e; simp
              · rw [if_neg (by omega), if_neg (by omega)]

theorem Tr.putL_nil (t : Tr α) (i : Nat) : t.putL i [] = t := rfl
theorem Tr.putL_cons (t : Tr α) (i : Nat) (v : α) (l : List α) : t.putL i (v :: l) = (t.put i v).putL (i + 1) l := by
  obtain ⟨a, b, c, h⟩ := Tr.put_ne t i v
  have e : t.putL i (v :: l) = @Tr.rec α (fun _ => Tr α) .e (fun a b c _ _ => (Tr.nd a b c).putL (Nat.succ i) l) (t.put i v) := rfl
  rw [e, h]
theorem Tr.putL_ne {t : Tr α} (i : Nat) : ∀ (l : List α), (l ≠ [] ∨ ∃ a b c, t = .nd a b c) → ∃ a b c, t.putL i l = .nd a b c := by
  intro l
  induction l generalizing t i with
  | nil => intro h; exact h.resolve_left (fun h => h rfl)
  | cons v l ih => intro _; rw [Tr.putL_cons]; exact ih (i + 1) (.inr (Tr.put_ne t i v))

theorem Sz.putL {t : Tr α} {n : Nat} (l : List α) (h : Sz t n) (i : Nat) (hi : i ≤ n) : Sz (t.putL i l) (max n (i + l.length)) ∧ ∀ j, (t.putL i l).at j = if i ≤ j ∧ j < i + l.length then l[j - i]? else t.at j := by
  induction l generalizing t n i with
  | nil =>
    rw [Tr.putL_nil]
    refine ⟨by rw [show max n (i + ([] : List α).length) = n by simp only [List.length_nil]; omega]; exact h, fun j => ?_⟩
    rw [if_neg (by simp only [List.length_nil]; omega)]
  | cons v l ih =>
    obtain ⟨h1, h2⟩ := h.put i hi v
    obtain ⟨h3, h4⟩ := ih h1 (i + 1) (by omega)
    rw [Tr.putL_cons]
    refine ⟨?_, fun j => ?_⟩
    · have e : max n (i + (v :: l).length) = max (max n (i + 1)) (i + 1 + l.length) := by simp; omega
      rw [e]; exact h3
    · rw [h4, h2]
      by_cases e : j = i
      · subst e
        rw [if_neg (by omega), if_pos rfl, if_pos (by simp), Nat.sub_self, List.getElem?_cons_zero]
      · by_cases e2 : i + 1 ≤ j ∧ j < i + 1 + l.length
        · rw [if_pos e2, if_pos (by simp; omega), show j - i = (j - (i + 1)) + 1 by omega]
          rfl
        · rw [if_neg e2, if_neg e, if_neg (by simp; omega)]

theorem Tr.rangeK_0 (t : Tr α) (i : Nat) (k : List α → β) (d : β) : t.rangeK 0 i k d = k [] := rfl
theorem Tr.rangeK_succ (t : Tr α) (n i : Nat) (k : List α → β) (d : β) : t.rangeK (n + 1) i k d = t.getK i (fun v => t.rangeK n (i + 1) (fun l => k (v :: l)) d) d := rfl
/-- A range that is read is what stands there. -/
theorem Tr.rangeK_some (t : Tr α) {γ : Type} {d : Option γ} (hd : d = none) : ∀ (n i : Nat) (k : List α → Option γ) (res : γ), t.rangeK n i k d = some res →
    ∃ l : List α, l.length = n ∧ (∀ j, j < n → t.at (i + j) = l[j]?) ∧ k l = some res := by
  intro n
  induction n with
  | zero => intro i k res h; exact ⟨[], rfl, by intro j hj; omega, h⟩
  | succ n ih =>
    intro i k res h
    rw [Tr.rangeK_succ, Tr.getK_eq] at h
    cases hv : t.at i with
    | none => rw [hv, hd] at h; cases h
    | some v =>
      rw [hv] at h
      obtain ⟨l, h1, h2, h3⟩ := ih (i + 1) (fun l => k (v :: l)) res h
      refine ⟨v :: l, by simp [h1], fun j hj => ?_, h3⟩
      cases j with
      | zero => simpa using hv
      | succ j => rw [show i + (j + 1) = i + 1 + j by omega, h2 j (by omega)]; rfl

theorem nthK_eq (l : List α) : ∀ (i : Nat) (k : α → β) (d : β), nthK l i k d = match l[i]? with | some v => k v | none => d := by
  induction l with
  | nil => intro i k d; cases i <;> rfl
  | cons v l ih => intro i k d; cases i with
    | zero => rfl
    | succ j => exact ih j k d

theorem forceN_eq (n : Nat) (k : Nat → β) : forceN n k = k n := by cases n <;> rfl
theorem forceI_eq (n : Int) (k : Int → β) : forceI n k = k n := by
  cases n with
  | ofNat m => show forceN m (fun m => k (.ofNat m)) = _; rw [forceN_eq]
  | negSucc m => show forceN m (fun m => k (.negSucc m)) = _; rw [forceN_eq]
end

/-! the parts of an operation, where it goes on -/
section
variable {res : Value × H × Nat}

theorem evL0_eq : ∀ (L : Loc) (k : Value → R) (i : Nat), evL0 L k i = match L[i]? with | some v => k v | none => none
  | [], k, i => by cases i <;> rfl
  | v :: L, k, 0 => rfl
  | v :: L, k, i + 1 => evL0_eq L k i
theorem ev_some {o : Opd} {L : Loc} {f : Fr} {k : Value → R} (h : ev o L f k = some res) :
    ∃ v, (match o with | .l i => L[i]? = some v | .s i => f.at i = some v | .c u => u = v) ∧ k v = some res := by
  cases o with
  | l i =>
    have h' : evL0 L k i = some res := h
    rw [evL0_eq] at h'
    cases hv : L[i]? with
    | none => rw [hv] at h'; cases h'
    | some v => rw [hv] at h'; exact ⟨v, hv, h'⟩
  | s i =>
    have h' : f.getK i k none = some res := h
    rw [Tr.getK_eq] at h'
    cases hv : f.at i with
    | none => rw [hv] at h'; cases h'
    | some v => rw [hv] at h'; exact ⟨v, hv, h'⟩
  | c u => exact ⟨u, rfl, h⟩
end
end Go.Proofs.YtccbdaffjkdpgaaGreatDoor.Vw
namespace Go.Proofs.YtccbdaffjkdpgaaGreatDoor.Vw

/-- what the codes stand for -/
class Val where
  val : Nat → Int
  lo : ∀ c, -9223372036854775808 ≤ val c
  hi : ∀ c, val c ≤ 18446744073709551615
def vI [Val] (n : Int) : Int := match n with
  | .ofNat m => if m ≤ 18446744073709551615 then .ofNat m else Val.val m
  | .negSucc m => .negSucc m
theorem vI_nat [Val] {m : Nat} (h : m ≤ 18446744073709551615) : vI (.ofNat m) = .ofNat m := if_pos h
theorem vI_code [Val] {m : Nat} (h : ¬ m ≤ 18446744073709551615) : vI (.ofNat m) = Val.val m := if_neg h
theorem vI_le [Val] (m : Nat) : vI (.ofNat m) ≤ 18446744073709551615 := by
  by_cases h : m ≤ 18446744073709551615
  · rw [vI_nat h]; exact Int.ofNat_le.2 h
  · rw [vI_code h]; exact Val.hi m
theorem vI_plain [Val] {n : Int} (h : ∀ m, n = .ofNat m → m ≤ 18446744073709551615) : vI n = n := by
  cases n with
  | ofNat m => exact vI_nat (h m rfl)
  | negSucc m => rfl

structure Ren where
  blk : Nat → Nat
  cap : Nat → Nat

section
variable [Val]
def ra (r : Ren) (a : Addr) : Addr := ⟨r.blk a.block, a.off, none⟩
def rsl (r : Ren) (a : Addr) (len cap : Nat) : Value :=
  if cap < OPEN then .slice (some ⟨r.blk a.block, match a.spot with
    | none => a.off
    | some q => if r.cap a.block ≤ q % SPB then a.off else a.off + q / SPB, none⟩) len cap
  else match a.spot with
    | none => .slice (some (ra r a)) len (r.cap a.block - (cap - OPEN))
    | some s => .slice (some ⟨r.blk a.block, if r.cap a.block ≤ cap - OPEN then a.off else a.off + s, none⟩) len (r.cap a.block - (cap - OPEN))
def renP (r : Ren) (v : Value) : Value := match v with
  | .pointer (some a) => .pointer (some (ra r a))
  | .slice (some a) len cap => rsl r a len cap
  | .map (some b) => .map (some (r.blk b))
  | .int kd n => .int kd (vI n)
  | v => v
def ren0 (r : Ren) (v : Value) : Value := match v with
  | .func fn a b => .func fn (a.map (renP r)) (b.map (renP r))
  | v => renP r v
def ren1 (r : Ren) (v : Value) : Value := match v with
  | .agg cs => .agg (cs.map (ren0 r))
  | v => ren0 r v
def ren (r : Ren) (v : Value) : Value := match v with
  | .tuple vs => .tuple (vs.map (ren1 r))
  | v => ren1 r v

end

/-- all blocks that it names are below 'n'; a part of a struct is one cell; a slice is no longer than its cap -/
def wfP (n : Nat) (r : Ren) (v : Value) : Prop := match v with
  | .pointer (some a) => a.block < n ∧ a.spot = none
  | .slice (some a) len cap => a.block < n ∧ (cap < OPEN → a.spot ≠ none → cap = 0) ∧ (a.spot ≠ none → len = 0) ∧ (OPEN ≤ cap → len + (cap - OPEN) ≤ r.cap a.block)
  | .map (some b) => b < n
  | .agg _ => False
  | .tuple _ => False
  | .func _ _ _ => False
  | _ => True
def wf0 (n : Nat) (r : Ren) (v : Value) : Prop := match v with
  | .func _ a b => (∀ x ∈ a.toList, wfP n r x) ∧ ∀ x ∈ b.toList, wfP n r x
  | v => wfP n r v
def wf1 (n : Nat) (r : Ren) (v : Value) : Prop := match v with
  | .agg cs => ∀ x ∈ cs.toList, wf0 n r x
  | v => wf0 n r v
def wf (n : Nat) (r : Ren) (v : Value) : Prop := match v with
  | .tuple vs => ∀ x ∈ vs.toList, wf1 n r x
  | v => wf1 n r v

/-- the same renaming of the blocks below 'n' -/
def Ag (n : Nat) (r r' : Ren) : Prop := ∀ b, b < n → r'.blk b = r.blk b ∧ r'.cap b = r.cap b

section
variable [Val] {n n' : Nat} {r r' : Ren}
omit [Val] in
theorem wfP.mono (h : n ≤ n') (ha : Ag n r r') {v : Value} (hv : wfP n r v) : wfP n' r' v := by
  cases v with
  | pointer a => cases a with
    | none => trivial
    | some a => exact ⟨Nat.lt_of_lt_of_le hv.1 h, hv.2⟩
  | slice a len cap => cases a with
    | none => trivial
    | some a => exact ⟨Nat.lt_of_lt_of_le hv.1 h, hv.2.1, hv.2.2.1, fun hc => by rw [(ha _ hv.1).2]; exact hv.2.2.2 hc⟩
  | map b => cases b with
    | none => trivial
    | some b => exact Nat.lt_of_lt_of_le hv h
  | agg _ => exact hv
  | tuple _ => exact hv
  | func _ _ _ => exact hv
  | _ => trivial
omit [Val] in
theorem wf0.mono (h : n ≤ n') (ha : Ag n r r') {v : Value} (hv : wf0 n r v) : wf0 n' r' v := by
  unfold wf0 at *
  split at hv
  · exact ⟨fun x hx => (hv.1 x hx).mono h ha, fun x hx => (hv.2 x hx).mono h ha⟩
  · exact wfP.mono h ha hv
omit [Val] in
theorem wf1.mono (h : n ≤ n') (ha : Ag n r r') {v : Value} (hv : wf1 n r v) : wf1 n' r' v := by
  unfold wf1 at *
  split at hv
  · exact fun x hx => (hv x hx).mono h ha
  · exact wf0.mono h ha hv
omit [Val] in
theorem wf.mono (h : n ≤ n') (ha : Ag n r r') {v : Value} (hv : wf n r v) : wf n' r' v := by
  unfold wf at *
  split at hv
  · exact fun x hx => (hv x hx).mono h ha
  · exact wf1.mono h ha hv

theorem renP_ag (h : Ag n r r') {v : Value} (hv : wfP n r v) : renP r' v = renP r v := by
  unfold renP
  split
  · rename_i a
    simp only [wfP] at hv
    simp [ra, (h _ hv.1).1]
  · rename_i a len cap
    simp only [wfP] at hv
    obtain ⟨h1, h2⟩ := h _ hv.1
    simp [rsl, ra, h1, h2]
  · rename_i b
    simp only [wfP] at hv
    rw [(h _ hv).1]
  · rfl
  · rfl
omit [Val] in
theorem map_ag {f g : Value → Value} {cs : Array Value} (h : ∀ x ∈ cs.toList, f x = g x) : cs.map f = cs.map g :=
  Array.map_congr_left fun x hx => h x (Array.mem_toList_iff.2 hx)
theorem ren0_ag (h : Ag n r r') {v : Value} (hv : wf0 n r v) : ren0 r' v = ren0 r v := by
  unfold ren0
  split
  · simp only [wf0] at hv
    rw [map_ag (fun x hx => renP_ag h (hv.1 x hx)), map_ag (fun x hx => renP_ag h (hv.2 x hx))]
  · rename_i hno
    refine renP_ag h ?_
    unfold wf0 at hv
    split at hv
    · exact absurd rfl (hno _ _ _)
    · exact hv
theorem ren1_ag (h : Ag n r r') {v : Value} (hv : wf1 n r v) : ren1 r' v = ren1 r v := by
  unfold ren1
  split
  · simp only [wf1] at hv
    rw [map_ag (fun x hx => ren0_ag h (hv x hx))]
  · rename_i hno
    refine ren0_ag h ?_
    unfold wf1 at hv
    split at hv
    · exact absurd rfl (hno _)
    · exact hv
theorem ren_ag (h : Ag n r r') {v : Value} (hv : wf n r v) : ren r' v = ren r v := by
  unfold ren
  split
  · simp only [wf] at hv
    rw [map_ag (fun x hx => ren1_ag h (hv x hx))]
  · rename_i hno
    refine ren1_ag h ?_
    unfold wf at hv
    split at hv
    · exact absurd rfl (hno _)
    · exact hv

omit [Val] in
/-- a value that is one cell -/
theorem wf_of_wf0 {v : Value} (h : wf0 n r v) : wf n r v := by
  cases v <;> first | exact h | (simp [wf0, wfP] at h)
theorem ren_of_wf0 {v : Value} (h : wf0 n r v) : ren r v = ren0 r v := by
  cases v <;> first | rfl | (simp [wf0, wfP] at h)
omit [Val] in
theorem wf0_one {v : Value} (h : wf0 n r v) : v.oneCell' = true := by
  cases v <;> first | rfl | (simp [wf0, wfP] at h)
theorem ren0_one {v : Value} (h : wf0 n r v) : (ren0 r v).oneCell' = true := by
  cases v with
  | pointer a => cases a <;> rfl
  | slice a len cap => cases a with
    | none => rfl
    | some a =>
      show (rsl r a len cap).oneCell' = true
      unfold rsl
      split
      · rfl
      · split <;> rfl
  | map a => cases a <;> rfl
  | agg _ => exact h.elim
  | tuple _ => exact h.elim
  | _ => rfl
end

/-! the heap -/
/-- nothing is frozen of so many cells -/
def Harm (f : Nat × Nat) (n : Nat) : Prop := f.1 = f.2 ∨ n ≤ f.1
def Blk.live (b : Blk) : Prop := b ≠ .dead

section
variable [Val] (P : Program)
def RowRep (r : Ren) (nx b : Nat) (e : TypeId) (op : Bool) (len o : Nat) (cs : Tr Value) (w : World) : Prop :=
  ∃ c frz m, w.heap[r.blk b]? = some (.cells c e frz) ∧ len ≤ c.size ∧ (op = false → c.size = len) ∧ (op = true → c.size = r.cap b * P.cellsOf e) ∧ Harm frz c.size ∧ o + len ≤ m ∧ Sz cs m ∧
    ∀ i, i < len → ∃ v, cs.at (o + i) = some v ∧ wf0 nx r v ∧ c[i]? = some (ren0 r v)
def BlkRep (r : Ren) (nx b : Nat) (x : Blk) (w : World) : Prop := match x with
  | .dead => True
  | .row e op len o cs => RowRep P r nx b e op len o cs w
  | .map0 => ∃ clk, w.heap[r.blk b]? = some (.map #[] clk)

abbrev Hf := Nat → Option Blk

structure Rep (r : Ren) (h : Hf) (nx : Nat) (w : World) : Prop where
  blk : ∀ b x, h b = some x → BlkRep P r nx b x w
  inj : ∀ b b' x x', h b = some x → h b' = some x' → x.live → x'.live → r.blk b = r.blk b' → b = b'
  lt : ∀ b x, h b = some x → b < nx

/-- the same block, but for what of it is frozen where nothing is -/
def SameB (o o' : Obj) : Prop := o' = o ∨ ∃ c e f f', o = .cells c e f ∧ o' = .cells c e f' ∧ (Harm f c.size → Harm f' c.size)

omit [Val] in
theorem SameB.trans {a b c : Obj} (h : SameB a b) (h' : SameB b c) : SameB a c := by
  rcases h with rfl | ⟨x, e, f, f', rfl, rfl, h1⟩
  · exact h'
  · rcases h' with rfl | ⟨x', e', g, g', h3, rfl, h4⟩
    · exact .inr ⟨x, e, f, f', rfl, rfl, h1⟩
    · cases h3
      exact .inr ⟨x, e, f, g', rfl, rfl, fun hh => h4 (h1 hh)⟩

/-- the world about it is the same -/
structure Out (w w' : World) : Prop where
  os : w'.os = w.os
  tape : w'.tape = w.tape
  output : w'.output = w.output
omit [Val] in
theorem Out.refl (w : World) : Out w w := ⟨rfl, rfl, rfl⟩
omit [Val] in
theorem Out.trans {a b c : World} (h : Out a b) (h' : Out b c) : Out a c := ⟨h'.os.trans h.os, h'.tape.trans h.tape, h'.output.trans h.output⟩
/-- nothing is made; the blocks of so many numbers stand as they did, but for what of them is frozen; all others stand as they did -/
structure Still (n : Nat) (r : Ren) (w w' : World) : Prop where
  out : Out w w'
  size : w'.heap.size = w.heap.size
  same : ∀ (k : Nat) (o : Obj), w.heap[k]? = some o → ∃ o', w'.heap[k]? = some o' ∧ SameB o o'
  old : ∀ k, k < w.heap.size → (∀ b, b < n → r.blk b ≠ k) → w'.heap[k]? = w.heap[k]?
omit [Val] in
theorem Still.refl (n : Nat) (r : Ren) (w : World) : Still n r w w := ⟨.refl w, rfl, fun _ o h => ⟨o, h, .inl rfl⟩, fun _ _ _ => rfl⟩

/-- From one heap, and what it stands for, to another. -/
structure Ev (r : Ren) (h : Hf) (nx : Nat) (w : World) (r' : Ren) (h' : Hf) (nx' : Nat) (w' : World) : Prop where
  le : nx ≤ nx'
  ag : ∀ b, (b < nx ∨ nx' ≤ b) → r'.blk b = r.blk b ∧ r'.cap b = r.cap b
  size : w.heap.size ≤ w'.heap.size
  unch : ∀ k o, w.heap[k]? = some o → (∀ b x, h b = some x → x.live → r.blk b ≠ k) → ∃ o', w'.heap[k]? = some o' ∧ SameB o o'
  img : ∀ b x, h' b = some x → x.live → w.heap.size ≤ r'.blk b ∨ ∃ b0 x0, h b0 = some x0 ∧ x0.live ∧ r.blk b0 = r'.blk b
  rep : Rep P r' h' nx' w'
  out : Out w w'
  all : ∀ b, nx ≤ b → b < nx' → w.heap.size ≤ r'.blk b ∨ ∃ b0, b0 < nx ∧ r.blk b0 = r'.blk b
  old : ∀ k, k < w.heap.size → (∀ b, b < nx → r.blk b ≠ k) → w'.heap[k]? = w.heap[k]?
end

section
variable [Val] {P : Program} {r r' r'' : Ren} {h h' h'' : Hf} {nx nx' nx'' : Nat} {w w' w'' : World}

theorem Ev.agree (e : Ev P r h nx w r' h' nx' w') : Ag nx r r' := fun b hb => e.ag b (.inl hb)
theorem Ev.ren (e : Ev P r h nx w r' h' nx' w') {v : Value} (hv : wf nx r v) : Vw.ren r' v = Vw.ren r v := ren_ag e.agree hv
theorem Ev.refl (hr : Rep P r h nx w) : Ev P r h nx w r h nx w :=
  ⟨Nat.le_refl _, fun _ _ => ⟨rfl, rfl⟩, Nat.le_refl _, fun k o ho _ => ⟨o, ho, .inl rfl⟩, fun b x hb hl => .inr ⟨b, x, hb, hl, rfl⟩, hr, .refl w, fun b h1 h2 => by omega, fun _ _ _ => rfl⟩
theorem Ev.trans (e : Ev P r h nx w r' h' nx' w') (e' : Ev P r' h' nx' w' r'' h'' nx'' w'') : Ev P r h nx w r'' h'' nx'' w'' := by
  refine ⟨Nat.le_trans e.le e'.le, fun b hb => ?_, Nat.le_trans e.size e'.size, fun k o ho hk => ?_, fun b x hb hl => ?_, e'.rep, e.out.trans e'.out, fun b h1 h2 => ?_, fun k hk hno => ?_⟩
  · have h1 := e.ag b (by have := e'.le; omega)
    have h2 := e'.ag b (by have := e.le; omega)
    exact ⟨h2.1.trans h1.1, h2.2.trans h1.2⟩
  · obtain ⟨o', ho', hs⟩ := e.unch k o ho hk
    have hlt : k < w.heap.size := (Array.getElem?_eq_some_iff.1 ho).1
    obtain ⟨o'', ho'', hs'⟩ := e'.unch k o' ho' (fun b x hb hl hk' => by
      rcases e.img b x hb hl with h1 | ⟨b0, x0, h1, h2, h3⟩
      · omega
      · exact hk b0 x0 h1 h2 (h3.trans hk'))
    exact ⟨o'', ho'', hs.trans hs'⟩
  · rcases e'.img b x hb hl with h1 | ⟨b0, x0, h1, h2, h3⟩
    · exact .inl (Nat.le_trans e.size h1)
    · rcases e.img b0 x0 h1 h2 with h4 | ⟨b1, x1, h4, h5, h6⟩
      · exact .inl (h3 ▸ h4)
      · exact .inr ⟨b1, x1, h4, h5, h6.trans h3⟩
  · have old : ∀ b, nx ≤ b → b < nx' → r''.blk b = r'.blk b := fun b _ h4 => (e'.ag b (.inl h4)).1
    rcases Nat.lt_or_ge b nx' with h3 | h3
    · rw [old b h1 h3]; exact e.all b h1 h3
    · rcases e'.all b h3 h2 with h4 | ⟨b0, h4, h5⟩
      · exact .inl (Nat.le_trans e.size h4)
      · rw [← h5]
        rcases Nat.lt_or_ge b0 nx with h6 | h6
        · exact .inr ⟨b0, h6, (e.ag b0 (.inl h6)).1.symm⟩
        · exact e.all b0 h6 h4
  · rw [e'.old k (Nat.lt_of_lt_of_le hk e.size) (fun b hb he => ?_), e.old k hk hno]
    rcases Nat.lt_or_ge b nx with h3 | h3
    · exact hno b h3 ((e.ag b (.inl h3)).1.symm.trans he)
    · rcases e.all b h3 hb with h4 | ⟨b0, h4, h5⟩
      · omega
      · exact hno b0 h4 (h5.trans he)

theorem RowRep.mono {b : Nat} {e : TypeId} {op : Bool} {len o : Nat} {cs : Tr Value} (hle : nx ≤ nx') (hr : RowRep P r nx b e op len o cs w) : RowRep P r nx' b e op len o cs w := by
  obtain ⟨c, frz, m, h1, h2, h3, h4, h5, h6, h7, h8⟩ := hr
  exact ⟨c, frz, m, h1, h2, h3, h4, h5, h6, h7, fun i hi => by obtain ⟨v, a, b, c⟩ := h8 i hi; exact ⟨v, a, b.mono hle (fun _ _ => ⟨rfl, rfl⟩), c⟩⟩
/-- A block's meaning where the renaming is the same below, and the block stands as it did. -/
theorem BlkRep.move {b : Nat} {x : Blk} (hb : b < nx) (hle : nx ≤ nx') (ha : Ag nx r r') {o o' : Obj} (ho : w.heap[r.blk b]? = some o) (ho' : w'.heap[r.blk b]? = some o') (hs : SameB o o')
    (hr : BlkRep P r nx b x w) : BlkRep P r' nx' b x w' := by
  obtain ⟨h1, h2⟩ := ha b hb
  cases x with
  | dead => trivial
  | map0 =>
    obtain ⟨clk, hc⟩ := hr
    rw [ho] at hc
    cases hc
    rcases hs with rfl | ⟨c, e, f, f', h3, _⟩
    · exact ⟨clk, by rw [h1]; exact ho'⟩
    · cases h3
  | row e op len o cs =>
    obtain ⟨c, frz, m, g1, g2, g3, g4, g5, g6, g7, g8⟩ := hr
    rw [ho] at g1
    cases g1
    have hv : ∀ i, i < len → ∃ v, cs.at (o + i) = some v ∧ wf0 nx' r' v ∧ c[i]? = some (ren0 r' v) := fun i hi => by
      obtain ⟨v, a, b, c⟩ := g8 i hi
      exact ⟨v, a, b.mono hle ha, by rw [c, ren0_ag ha b]⟩
    rcases hs with rfl | ⟨c', e', f, f', h3, rfl, h4⟩
    · exact ⟨c, frz, m, by rw [h1]; exact ho', g2, g3, by rw [h2]; exact g4, g5, g6, g7, hv⟩
    · cases h3
      exact ⟨c, f', m, by rw [h1]; exact ho', g2, g3, by rw [h2]; exact g4, h4 g5, g6, g7, hv⟩
theorem BlkRep.there {b : Nat} {x : Blk} (hl : x.live) (hr : BlkRep P r nx b x w) : ∃ o, w.heap[r.blk b]? = some o := by
  cases x with
  | dead => exact absurd rfl hl
  | map0 => obtain ⟨clk, hc⟩ := hr; exact ⟨_, hc⟩
  | row e op len o cs => obtain ⟨c, frz, m, g1, _⟩ := hr; exact ⟨_, g1⟩
end
end Go.Proofs.YtccbdaffjkdpgaaGreatDoor.Vw
namespace Go.Proofs.YtccbdaffjkdpgaaGreatDoor.Vw

section
variable {res : Value × H × Nat}

theorem blkK_some {h : H} {b : Nat} {k : TypeId → Bool → Nat → Nat → Tr Value → R} (hh : blkK h b k = some res) :
    ∃ e op len o cs, h.at b = some (.row e op len o cs) ∧ k e op len o cs = some res := by
  unfold blkK at hh
  rw [Tr.getK_eq] at hh
  cases hb : h.at b with
  | none => rw [hb] at hh; cases hh
  | some x =>
    rw [hb] at hh
    cases x with
    | dead => cases hh
    | map0 => cases hh
    | row e op len o cs => exact ⟨e, op, len, o, cs, rfl, hh⟩

theorem boolK {b : Bool} {x y : R} (h : Bool.rec x y b = some res) : (b = true ∧ y = some res) ∨ (b = false ∧ x = some res) := by
  cases b
  · exact .inr ⟨rfl, h⟩
  · exact .inl ⟨rfl, h⟩
theorem boolK' {b : Bool} {y : R} (h : @Bool.rec (fun _ => R) none y b = some res) : b = true ∧ y = some res := by
  cases b
  · cases h
  · exact ⟨rfl, h⟩

/-- what stands in a row -/
def Cells (h : Hf) (b off : Nat) (l : List Value) : Prop :=
  ∃ e op len o cs, h b = some (.row e op len o cs) ∧ off + l.length ≤ len ∧ ∀ j, j < l.length → cs.at (o + off + j) = l[j]?

theorem loadK_some {h : H} {a : Addr} {n : Nat} {k : List Value → R} (hh : loadK h a n k = some res) :
    a.spot = none ∧ ∃ l, l.length = n ∧ Cells h.at a.block a.off l ∧ k l = some res := by
  obtain ⟨b, off, spot⟩ := a
  cases spot with
  | some s => cases hh
  | none =>
    obtain ⟨e, op, len, o, cs, hb, h1⟩ := blkK_some (show blkK h b _ = some res from hh)
    obtain ⟨h2, h3⟩ := boolK' h1
    obtain ⟨l, h4, h5, h6⟩ := Tr.rangeK_some cs rfl n _ k res h3
    have h2' : off + n ≤ len := Nat.le_of_ble_eq_true h2
    exact ⟨rfl, l, h4, ⟨e, op, len, o, cs, hb, by rw [h4]; exact h2', fun j hj => h5 j (by omega)⟩, h6⟩
theorem load1_some {h : H} {a : Addr} {k : Value → R} (hh : load1 h a k = some res) :
    a.spot = none ∧ ∃ v, Cells h.at a.block a.off [v] ∧ k v = some res := by
  obtain ⟨b, off, spot⟩ := a
  cases spot with
  | some s => cases hh
  | none =>
    obtain ⟨e, op, len, o, cs, hb, h1⟩ := blkK_some (show blkK h b _ = some res from hh)
    obtain ⟨h2, h3⟩ := boolK' h1
    have h2' : off + 1 ≤ len := Nat.le_of_ble_eq_true h2
    rw [Tr.getK_eq] at h3
    cases hv : cs.at (Nat.add o off) with
    | none => rw [hv] at h3; cases h3
    | some v =>
      rw [hv] at h3
      exact ⟨rfl, v, ⟨e, op, len, o, cs, hb, h2', fun j hj => by
        have : j = 0 := by simp at hj; omega
        subst this
        exact hv⟩, h3⟩

theorem putH_some {h : H} {b : Nat} {x : Blk} {k : H → R} (hh : putH h b x k = some res) : k (h.put b x) = some res := by
  unfold putH at hh
  obtain ⟨v, l, r, e⟩ := Tr.put_ne h b x
  rw [e] at hh
  rw [e]
  exact hh
theorem newB_some {h : H} {n : Nat} {x : Blk} {k : H → Nat → R} (hh : newB h n x k = some res) : k (h.put n x) (n + 1) = some res := by
  have h1 := putH_some hh
  rw [forceN_eq] at h1
  exact h1
theorem storeK_some {h : H} {a : Addr} {vs : List Value} {k : H → R} (hh : storeK h a vs k = some res) :
    (vs = [] ∧ k h = some res) ∨ (vs ≠ [] ∧ a.spot = none ∧ ∃ e op len o cs, h.at a.block = some (.row e op len o cs) ∧ a.off + vs.length ≤ len ∧
      k (h.put a.block (.row e op len o (cs.putL (o + a.off) vs))) = some res) := by
  cases vs with
  | nil => exact .inl ⟨rfl, hh⟩
  | cons v0 vr =>
    refine .inr ⟨by simp, ?_⟩
    obtain ⟨b, off, spot⟩ := a
    cases spot with
    | some s => cases hh
    | none =>
      obtain ⟨e, op, len, o, cs, hb, h1⟩ := blkK_some (show blkK h b _ = some res from hh)
      obtain ⟨h2, h3⟩ := boolK' h1
      have h2' : off + (v0 :: vr).length ≤ len := Nat.le_of_ble_eq_true h2
      obtain ⟨x, y, z, he⟩ := Tr.putL_ne (t := cs) (Nat.add o off) (v0 :: vr) (.inl (by simp))
      rw [he] at h3
      have h4 := putH_some h3
      refine ⟨rfl, e, op, len, o, cs, hb, h2', ?_⟩
      rw [show cs.putL (o + off) (v0 :: vr) = .nd x y z from he]
      exact h4
theorem addA_some {a : Addr} {n : Nat} {k : Addr → R} (hh : addA a n k = some res) : k (a.add n) = some res := by
  cases n with
  | zero => exact hh
  | succ m =>
    have h1 : forceN (Nat.add a.off (Nat.succ m)) (fun o => k ⟨a.block, o, none⟩) = some res := hh
    rw [forceN_eq] at h1
    simpa [Addr.add] using h1
end

section
variable [Val] {P : Program} {r : Ren} {nx : Nat} {w : World}

omit [Val] in
theorem add_ra (r : Ren) (a : Addr) (n : Nat) : (ra r a).add n = ra r (a.add n) := by
  unfold Addr.add ra
  split <;> rfl
omit [Val] in
theorem add_none {a : Addr} (h : a.spot = none) (n : Nat) : (a.add n).spot = none := by
  unfold Addr.add
  split
  · exact h
  · rfl
omit [Val] in
theorem add_block (a : Addr) (n : Nat) : (a.add n).block = a.block := by unfold Addr.add; split <;> rfl
omit [Val] in
theorem add_off (a : Addr) (n : Nat) : (a.add n).off = a.off + n := by
  unfold Addr.add
  split
  · rename_i h; simp [h]
  · rfl

/-- What is read is what stands for it. -/
theorem Cells.rep {h : Hf} {b off : Nat} {l : List Value} (hc : Cells h b off l) (hr : Rep P r h nx w) :
    (∀ v ∈ l, wf0 nx r v) ∧ ∀ j v, l[j]? = some v → w.cell? ((⟨r.blk b, off, none⟩ : Addr).add j) = some (ren0 r v) := by
  obtain ⟨e, op, len, o, cs, hb, hlen, hat⟩ := hc
  obtain ⟨c, frz, m, g1, g2, g3, g4, g5, g6, g7, g8⟩ := hr.blk b _ hb
  have key : ∀ j v, l[j]? = some v → wf0 nx r v ∧ c[off + j]? = some (ren0 r v) := fun j v hj => by
    have hlt : j < l.length := (List.getElem?_eq_some_iff.1 hj).1
    obtain ⟨u, a1, a2, a3⟩ := g8 (off + j) (by omega)
    have := hat j hlt
    rw [show o + off + j = o + (off + j) by omega, a1, hj] at this
    cases this
    exact ⟨a2, a3⟩
  refine ⟨fun v hv => ?_, fun j v hj => ?_⟩
  · obtain ⟨j, hj⟩ := List.getElem?_of_mem hv
    exact (key j v hj).1
  · have e1 : (⟨r.blk b, off, none⟩ : Addr).add j = ⟨r.blk b, off + j, none⟩ := by unfold Addr.add; split <;> simp_all
    rw [e1, cell_of_row w (r.blk b) (off + j) c e frz g1]
    exact (key j v hj).2
theorem Cells.run {h : Hf} {a : Addr} {l : List Value} (hc : Cells h a.block a.off l) (hr : Rep P r h nx w) : (loadCells (ra r a) l.length).run P w = .ok (l.map (ren0 r)).toArray w := by
  have h1 := run_loadCells_list (P := P) w (ra r a) (l.map (ren0 r)) (fun j v hj => by
    rw [List.getElem?_map] at hj
    cases hl : l[j]? with
    | none => rw [hl] at hj; cases hj
    | some u =>
      rw [hl] at hj
      cases hj
      exact (hc.rep hr).2 j u hl)
  rw [List.length_map] at h1
  exact h1

/-- One block is another, and the world with it. -/
theorem upd_ev {h : H} {b : Nat} {x x' : Blk} {w' : World} (hout : Out w w') (hsz : Sz h nx) (hr : Rep P r h.at nx w) (hb : h.at b = some x) (hl : x.live)
    (hs : w'.heap.size = w.heap.size) (hk : ∀ k, k ≠ r.blk b → w'.heap[k]? = w.heap[k]?) (hx : BlkRep P r nx b x' w') :
    Sz (h.put b x') nx ∧ Ev P r h.at nx w r (h.put b x').at nx w' := by
  have hlt : b < nx := (hsz b).1 (by rw [hb]; rfl)
  obtain ⟨s1, s2⟩ := hsz.put b (Nat.le_of_lt hlt) x'
  rw [show max nx (b + 1) = nx by omega] at s1
  refine ⟨s1, Nat.le_refl _, fun _ _ => ⟨rfl, rfl⟩, by rw [hs]; exact Nat.le_refl _, fun k o ho hno => ?_, fun b' y hy hly => ?_, ⟨fun b' y hy => ?_, fun b1 b2 x1 x2 h1 h2 l1 l2 he => ?_, fun b' y hy => (s1 b').1 (by rw [hy]; rfl)⟩, hout, fun b h1 h2 => by omega, fun k _ hno => hk k (fun e => hno b hlt e.symm)⟩
  · exact ⟨o, by rw [hk k (fun e => hno b x hb hl e.symm)]; exact ho, .inl rfl⟩
  · rw [s2] at hy
    by_cases e : b' = b
    · subst e; exact .inr ⟨b', x, hb, hl, rfl⟩
    · rw [if_neg e] at hy; exact .inr ⟨b', y, hy, hly, rfl⟩
  · rw [s2] at hy
    by_cases e : b' = b
    · subst e; rw [if_pos rfl] at hy; cases hy; exact hx
    · rw [if_neg e] at hy
      by_cases hd : y = .dead
      · subst hd; trivial
      · have hne : r.blk b' ≠ r.blk b := fun he => e (hr.inj b' b y x hy hb hd hl he)
        have hold := hr.blk b' y hy
        obtain ⟨o, ho⟩ := BlkRep.there hd hold
        exact BlkRep.move ((hsz b').1 (by rw [hy]; rfl)) (Nat.le_refl _) (fun _ _ => ⟨rfl, rfl⟩) ho (by rw [hk _ hne]; exact ho) (.inl rfl) hold
  · have g : ∀ b1 x1, (h.put b x').at b1 = some x1 → x1.live → ∃ y, h.at b1 = some y ∧ y.live := fun b1 x1 h1 l1 => by
      rw [s2] at h1
      by_cases e : b1 = b
      · subst e; exact ⟨x, hb, hl⟩
      · rw [if_neg e] at h1; exact ⟨x1, h1, l1⟩
    obtain ⟨y1, g1, g2⟩ := g b1 x1 h1 l1
    obtain ⟨y2, g3, g4⟩ := g b2 x2 h2 l2
    exact hr.inj b1 b2 y1 y2 g1 g3 g2 g4 he

def Ren.set (r : Ren) (b k c : Nat) : Ren := ⟨fun i => if i = b then k else r.blk i, fun i => if i = b then c else r.cap i⟩
omit [Val] in
theorem Ren.set_blk (r : Ren) (b k c : Nat) : (r.set b k c).blk b = k := if_pos rfl
omit [Val] in
theorem Ren.set_cap (r : Ren) (b k c : Nat) : (r.set b k c).cap b = c := if_pos rfl
omit [Val] in
theorem Ren.set_ne (r : Ren) {b k c i : Nat} (h : i ≠ b) : (r.set b k c).blk i = r.blk i ∧ (r.set b k c).cap i = r.cap i := ⟨if_neg h, if_neg h⟩

/-- A new block, known by the next number. -/
theorem new_ev {h : H} {x : Blk} {o : Obj} {w' : World} {c : Nat} (hout : Out w w') (hsz : Sz h nx) (hr : Rep P r h.at nx w) (hw : w'.heap = w.heap.push o)
    (hx : BlkRep P (r.set nx w.heap.size c) (nx + 1) nx x w') :
    Sz (h.put nx x) (nx + 1) ∧ Ev P r h.at nx w (r.set nx w.heap.size c) (h.put nx x).at (nx + 1) w' := by
  obtain ⟨s1, s2⟩ := hsz.put nx (Nat.le_refl _) x
  rw [show max nx (nx + 1) = nx + 1 by omega] at s1
  have hag : Ag nx r (r.set nx w.heap.size c) := fun b hb => Ren.set_ne r (by omega)
  have hlt : ∀ b y, h.at b = some y → b < nx := fun b y hy => (hsz b).1 (by rw [hy]; rfl)
  have hold : ∀ k, k < w.heap.size → w'.heap[k]? = w.heap[k]? := fun k hk => by rw [hw, Array.getElem?_push_lt hk, Array.getElem?_eq_getElem hk]
  have hin : ∀ b y, h.at b = some y → y.live → r.blk b < w.heap.size := fun b y hy hl => by
    obtain ⟨o, ho⟩ := BlkRep.there hl (hr.blk b y hy)
    exact (Array.getElem?_eq_some_iff.1 ho).1
  refine ⟨s1, Nat.le_succ _, fun b hb => Ren.set_ne r (by omega), by rw [hw]; simp, fun k o ho _ => ?_, fun b y hy hly => ?_, ⟨fun b y hy => ?_, fun b1 b2 x1 x2 h1 h2 l1 l2 he => ?_, fun b' y hy => (s1 b').1 (by rw [hy]; rfl)⟩, hout, fun b h1 h2 => .inl (by rw [show b = nx by omega, Ren.set_blk]; exact Nat.le_refl _), fun k hk _ => hold k hk⟩
  · exact ⟨o, by rw [hold k (Array.getElem?_eq_some_iff.1 ho).1]; exact ho, .inl rfl⟩
  · rw [s2] at hy
    by_cases e : b = nx
    · subst e; exact .inl (by rw [Ren.set_blk]; exact Nat.le_refl _)
    · rw [if_neg e] at hy; exact .inr ⟨b, y, hy, hly, (Ren.set_ne r e).1.symm⟩
  · rw [s2] at hy
    by_cases e : b = nx
    · subst e; rw [if_pos rfl] at hy; cases hy; exact hx
    · rw [if_neg e] at hy
      by_cases hd : y = .dead
      · subst hd; trivial
      · have ho := hr.blk b y hy
        obtain ⟨u, hu⟩ := BlkRep.there hd ho
        exact BlkRep.move (hlt b y hy) (Nat.le_succ _) hag hu (by rw [hold _ (hin b y hy hd)]; exact hu) (.inl rfl) ho
  · rw [s2] at h1 h2
    by_cases e1 : b1 = nx
    · by_cases e2 : b2 = nx
      · omega
      · rw [if_neg e2] at h2
        rw [e1, Ren.set_blk, (Ren.set_ne r e2).1] at he
        have := hin b2 x2 h2 l2
        omega
    · rw [if_neg e1] at h1
      by_cases e2 : b2 = nx
      · rw [e2, Ren.set_blk, (Ren.set_ne r e1).1] at he
        have := hin b1 x1 h1 l1
        omega
      · rw [if_neg e2] at h2
        rw [(Ren.set_ne r e1).1, (Ren.set_ne r e2).1] at he
        exact hr.inj b1 b2 x1 x2 h1 h2 l1 l2 he

/-- A block that grows where it stands: known by a new number, the elder is dead. -/
theorem grow_ev {h : H} {b : Nat} {x x' : Blk} {w' : World} (hout : Out w w') (hsz : Sz h nx) (hr : Rep P r h.at nx w) (hb : h.at b = some x) (hl : x.live)
    (hs : w'.heap.size = w.heap.size) (hk : ∀ k, k ≠ r.blk b → w'.heap[k]? = w.heap[k]?) (hx : BlkRep P (r.set nx (r.blk b) (r.cap b)) (nx + 1) nx x' w') :
    Sz ((h.put b .dead).put nx x') (nx + 1) ∧ Ev P r h.at nx w (r.set nx (r.blk b) (r.cap b)) ((h.put b .dead).put nx x').at (nx + 1) w' := by
  have hlt : b < nx := (hsz b).1 (by rw [hb]; rfl)
  obtain ⟨s1, s2⟩ := hsz.put b (Nat.le_of_lt hlt) .dead
  rw [show max nx (b + 1) = nx by omega] at s1
  obtain ⟨s3, s4⟩ := s1.put nx (Nat.le_refl _) x'
  rw [show max nx (nx + 1) = nx + 1 by omega] at s3
  have hag : Ag nx r (r.set nx (r.blk b) (r.cap b)) := fun i hi => Ren.set_ne r (by omega)
  have g : ∀ b1 x1, ((h.put b .dead).put nx x').at b1 = some x1 → x1.live → (b1 = nx ∧ x1 = x') ∨ (b1 ≠ nx ∧ b1 ≠ b ∧ h.at b1 = some x1) := fun b1 x1 h1 l1 => by
    rw [s4] at h1
    by_cases e : b1 = nx
    · rw [if_pos e] at h1; cases h1; exact .inl ⟨e, rfl⟩
    · rw [if_neg e, s2] at h1
      by_cases e2 : b1 = b
      · rw [if_pos e2] at h1; cases h1; exact absurd rfl l1
      · rw [if_neg e2] at h1; exact .inr ⟨e, e2, h1⟩
  refine ⟨s3, Nat.le_succ _, fun i hi => Ren.set_ne r (by omega), by rw [hs]; exact Nat.le_refl _, fun k o ho hno => ?_, fun b1 y hy hly => ?_, ⟨fun b1 y hy => ?_, fun b1 b2 x1 x2 h1 h2 l1 l2 he => ?_, fun b' y hy => (s3 b').1 (by rw [hy]; rfl)⟩, hout, fun b1 h1 h2 => .inr ⟨b, hlt, by rw [show b1 = nx by omega, Ren.set_blk]⟩, fun k _ hno => hk k (fun e => hno b hlt e.symm)⟩
  · exact ⟨o, by rw [hk k (fun e => hno b x hb hl e.symm)]; exact ho, .inl rfl⟩
  · rcases g b1 y hy hly with ⟨rfl, rfl⟩ | ⟨e, _, h1⟩
    · exact .inr ⟨b, x, hb, hl, by rw [Ren.set_blk]⟩
    · exact .inr ⟨b1, y, h1, hly, (Ren.set_ne r e).1.symm⟩
  · by_cases hd : y = .dead
    · subst hd; trivial
    · rcases g b1 y hy hd with ⟨rfl, rfl⟩ | ⟨e, e2, h1⟩
      · exact hx
      · have hne : r.blk b1 ≠ r.blk b := fun he => e2 (hr.inj b1 b y x h1 hb hd hl he)
        have ho := hr.blk b1 y h1
        obtain ⟨u, hu⟩ := BlkRep.there hd ho
        exact BlkRep.move ((hsz b1).1 (by rw [h1]; rfl)) (Nat.le_succ _) hag hu (by rw [hk _ hne]; exact hu) (.inl rfl) ho
  · rcases g b1 x1 h1 l1 with ⟨rfl, rfl⟩ | ⟨e, e2, g1⟩
    · rcases g b2 x2 h2 l2 with ⟨rfl, rfl⟩ | ⟨f, f2, g2⟩
      · rfl
      · rw [Ren.set_blk, (Ren.set_ne r f).1] at he
        exact absurd (hr.inj b b2 x x2 hb g2 hl l2 he).symm f2
    · rcases g b2 x2 h2 l2 with ⟨rfl, rfl⟩ | ⟨f, f2, g2⟩
      · rw [Ren.set_blk, (Ren.set_ne r e).1] at he
        exact absurd (hr.inj b1 b x1 x g1 hb l1 hl he) e2
      · rw [(Ren.set_ne r e).1, (Ren.set_ne r f).1] at he
        exact hr.inj b1 b2 x1 x2 g1 g2 l1 l2 he
end
end Go.Proofs.YtccbdaffjkdpgaaGreatDoor.Vw
namespace Go.Proofs.YtccbdaffjkdpgaaGreatDoor.Vw

def SrcV (len : Nat) (L : Loc) (f : Fr) (s : Src) (v : Value) : Prop := match s with
  | .p p => L[len - 1 - p]? = some v
  | .s i => f.at i = some v
  | .c c => v = c
  | .no => False

structure EnvR [Val] (live : List Nat) (cx : Cx) (len : Nat) (L : Loc) (f : Fr) (n : Nat) (r : Ren) (a : Act) : Prop where
  loc : ∀ t s v, cx.find t = some s → SrcV len L f s v → wf n r v ∧ a.tmps[t]? = some (ren r v)
  slot : ∀ t i v, cx.find t = none → idxOf t live 0 = some i → f.at i = some v → wf n r v ∧ a.tmps[t]? = some (ren r v)

def EvV (o : Opd) (L : Loc) (f : Fr) (v : Value) : Prop := match o with
  | .l i => L[i]? = some v
  | .s i => f.at i = some v
  | .c u => u = v

section
variable [Val] {P : Program} {ty : Ty} {live : List Nat} {cx : Cx} {len : Nat} {L : Loc} {f : Fr} {n : Nat} {r : Ren} {a : Act} {res : Value × H × Nat}

omit [Val] in
theorem ev_EvV {o : Opd} {k : Value → R} (h : ev o L f k = some res) : ∃ v, EvV o L f v ∧ k v = some res := by
  obtain ⟨v, h1, h2⟩ := ev_some h
  exact ⟨v, by cases o <;> exact h1, h2⟩

theorem constOk_wf {v : Value} (h : constOk v = true) (n : Nat) (r : Ren) : wf0 n r v ∧ ren r v = v ∧ ren0 r v = v := by
  cases v with
  | pointer a => cases a with
    | none => exact ⟨trivial, rfl, rfl⟩
    | some a => cases h
  | slice a l c => cases a with
    | none => exact ⟨trivial, rfl, rfl⟩
    | some a => cases h
  | map a => cases a with
    | none => exact ⟨trivial, rfl, rfl⟩
    | some a => cases h
  | bool _ => exact ⟨trivial, rfl, rfl⟩
  | int kd m =>
    have e : vI m = m := vI_plain fun q hq => by
      subst hq
      exact Nat.le_of_ble_eq_true h
    exact ⟨trivial, congrArg (Value.int kd) e, congrArg (Value.int kd) e⟩
  | string _ => exact ⟨trivial, rfl, rfl⟩
  | nilFunc => exact ⟨trivial, rfl, rfl⟩
  | _ => cases h

theorem copd_eval {x : Operand} {y : Opd} {v : Value} (hc : copd live cx len x = some y) (hv : EvV y L f v) (he : EnvR live cx len L f n r a) : wf n r v ∧ a.eval x = ren r v := by
  have tmp : ∀ t, (wf n r v ∧ a.tmps[t]? = some (ren r v)) → wf n r v ∧ a.eval (.tmp t) = ren r v := fun t h => ⟨h.1, by
    show a.tmps.getD t undef = _
    rw [Array.getD_eq_getD_getElem?, h.2]
    rfl⟩
  cases x with
  | tmp t =>
    refine tmp t ?_
    unfold copd at hc
    simp only at hc
    cases hf : cx.find t with
    | none =>
      rw [hf] at hc
      simp only at hc
      cases hi : idxOf t live 0 with
      | none => rw [hi] at hc; cases hc
      | some i =>
        rw [hi] at hc
        cases hc
        exact he.slot t i v hf hi hv
    | some s =>
      rw [hf] at hc
      cases s with
      | p p => cases hc; exact he.loc t _ v hf hv
      | s i => cases hc; exact he.loc t _ v hf hv
      | c u => cases hc; exact he.loc t _ v hf (show v = u from (show u = v from hv).symm)
      | no => cases hc
  | const u =>
    unfold copd at hc
    simp only at hc
    cases hk : constOk u with
    | false => rw [hk] at hc; cases hc
    | true =>
      rw [hk] at hc
      cases hc
      cases (show u = v from hv)
      obtain ⟨h1, h2, _⟩ := constOk_wf hk n r
      exact ⟨wf_of_wf0 h1, h2.symm⟩
  | global g => cases hc
  | func g =>
    cases hc
    cases (show Value.func (.func g) #[] #[] = v from hv)
    refine ⟨?_, ?_⟩
    · show wf0 n r (Value.func (.func g) #[] #[])
      exact ⟨by simp, by simp⟩
    · show Value.func (.func g) #[] #[] = Value.func (.func g) (#[].map _) (#[].map _)
      simp

omit [Val] in
theorem run_v {s : Sem Value} {v : Value} {w w' : World} (h : s.run P w = .ok v w') : (do pure (.value (← s)) : Sem Next).run P w = .ok (.value v) w' := by
  simp [h]

/-- a number or a truth; what it stands for -/
def isLit (v : Value) : Bool := match v with
  | .int _ _ => true
  | .bool _ => true
  | _ => false
def rv (v : Value) : Value := match v with
  | .int kd n => .int kd (vI n)
  | v => v
/-- what a row says is so -/
structure RowOk (w : Row) : Prop where
  lit : isLit w.v = true
  bin : ∀ (op : BinOp) (kd : IntKind), w.o = op.ctorIdx * 16 + kd.ctorIdx → ∀ (P : Program) t wd, (Go.binOp op t (.int kd (vI (.ofNat w.a))) (.int kd (vI (.ofNat w.b)))).run P wd = .ok (rv w.v) wd
  shl : ∀ (kd kb : IntKind), w.o = 640 + kd.ctorIdx → ∀ (P : Program) t wd, (Go.binOp .shl t (.int kd (vI (.ofNat w.a))) (.int kb (.ofNat w.b))).run P wd = .ok (rv w.v) wd
  shr : ∀ (kd kb : IntKind), w.o = 656 + kd.ctorIdx → ∀ (P : Program) t wd, (Go.binOp .shr t (.int kd (vI (.ofNat w.a))) (.int kb (.ofNat w.b))).run P wd = .ok (rv w.v) wd
  conv : ∀ (kd : IntKind), w.o = 1024 + kd.ctorIdx → rv w.v = .int kd (kd.wrap (vI (.ofNat w.a)))
  mm : ∀ (mx : Bool) (kd : IntKind), w.o = (if mx then 736 else 720) + kd.ctorIdx → rv w.v = .int kd (if mx then (if vI (.ofNat w.b) > vI (.ofNat w.a) then vI (.ofNat w.b) else vI (.ofNat w.a)) else (if vI (.ofNat w.b) < vI (.ofNat w.a) then vI (.ofNat w.b) else vI (.ofNat w.a)))
  nat : ∀ (kd : IntKind), w.o = 176 + kd.ctorIdx → ∃ x y : Nat, x ≤ 18446744073709551615 ∧ y ≤ 18446744073709551615 ∧ vI (.ofNat w.a) = .ofNat x ∧ vI (.ofNat w.b) = .ofNat y
theorem lit_ren {v : Value} (h : isLit v = true) (n : Nat) (r : Ren) : wf0 n r v ∧ ren r v = rv v ∧ ren0 r v = rv v := by
  cases v <;> first | exact ⟨trivial, rfl, rfl⟩ | cases h

/-- the table of types is the program's; what the table says is so -/
structure TyOk (P : Program) (ty : Ty) : Prop where
  info : ∀ t i, info? ty t = some i → P.info? t = some i
  tab : ∀ w, ty.tb.has w → RowOk w

theorem und_ok (ht : TyOk P ty) {t : TypeId} {d : TypeDesc} (h : und ty t = some d) : P.underlying t = some d := by
  unfold und at h
  unfold Program.underlying
  cases hi : info? ty t with
  | none => rw [hi] at h; cases h
  | some i =>
    rw [hi] at h
    rw [ht.info t i hi]
    simp only at h
    split at h
    · rename_i nm u hd
      cases hj : info? ty u with
      | none => rw [hj] at h; cases h
      | some j =>
        rw [hj] at h
        cases h
        obtain ⟨d, s1, s2, s3, s4, s5, s6, s7, s8, s9⟩ := i
        simp only at hd
        subst hd
        simp [ht.info u j hj]
    · rename_i hno
      cases h
      obtain ⟨d, s1, s2, s3, s4, s5, s6, s7, s8, s9⟩ := i
      cases d <;> first | rfl | exact absurd rfl (hno _ _)
theorem tsize_ok (ht : TyOk P ty) {t : TypeId} {m : Nat} (h : tsize ty t = some m) : ∃ i, P.info? t = some i ∧ i.size = m ∧ P.cellsOf t = m := by
  unfold tsize at h
  cases hi : info? ty t with
  | none => rw [hi] at h; cases h
  | some i =>
    rw [hi] at h
    cases h
    exact ⟨i, ht.info t i hi, rfl, by simp [Program.cellsOf, ht.info t i hi]⟩
theorem run_und (ht : TyOk P ty) {t : TypeId} {d : TypeDesc} (h : und ty t = some d) (w : World) : (underlying t).run P w = .ok d w := run_underlying (und_ok ht h) w
theorem run_size (ht : TyOk P ty) {t : TypeId} {m : Nat} (h : tsize ty t = some m) (w : World) : (sizeOf t).run P w = .ok m w := by
  obtain ⟨i, h1, h2, h3⟩ := tsize_ok ht h
  rw [← h3]
  exact run_sizeOf _ h1
theorem run_agg (ht : TyOk P ty) {t : TypeId} {b : Bool} (h : tagg ty t = some b) (w : World) : (isAgg t).run P w = .ok b w := by
  unfold tagg at h
  cases hd : und ty t with
  | none => rw [hd] at h; cases h
  | some d =>
    rw [hd] at h
    cases h
    unfold isAgg
    simp only [bind, pure, Sem.run_bind', run_und ht hd, Result.andThen_ok]
    cases d <;> rfl
end

section
variable [Val] (P : Program) (live : List Nat) (cx : Cx) (len : Nat)
/-- an operation that leaves a value, and nothing else, whatever the world -/
def PuS (o : Op) (g : Pu) : Prop := ∀ L f k res, g L f k = some res → ∃ v, k v = some res ∧
  ∀ r n a, EnvR live cx len L f n r a → wf n r v ∧ ∀ (op : Oper), op.op = o → ∀ w, (execOp a.eval op).run P w = .ok (.value (ren r v)) w
end

section
variable [Val] {P : Program} {ty : Ty} {live : List Nat} {cx : Cx} {len : Nat}

theorem mov_s {x : Operand} {y : Opd} (hc : copd live cx len x = some y) : PuS P live cx len (.move x) (movP y) ∧ PuS P live cx len (.assign x) (movP y) := by
  refine ⟨fun L f k res h => ?_, fun L f k res h => ?_⟩
  all_goals
    obtain ⟨v, h1, h2⟩ := ev_EvV h
    refine ⟨v, h2, fun r n a he => ?_⟩
    obtain ⟨h3, h4⟩ := copd_eval hc h1 he
    refine ⟨h3, fun op ho w => ?_⟩
    simp only [execOp, ho, h4]
    rfl

omit [Val] in
theorem asBool_some {v : Value} {t e : R} {res : Value × H × Nat} (h : Vw.asBool v t e = some res) : ∃ b, v = .bool b ∧ (if b then t else e) = some res := by
  cases v with
  | bool b => cases b <;> exact ⟨_, rfl, h⟩
  | _ => cases h
theorem pick_s {c x y : Operand} {c' x' y' : Opd} (hc : copd live cx len c = some c') (hx : copd live cx len x = some x') (hy : copd live cx len y = some y') :
    PuS P live cx len (.pick c x y) (pickP c' x' y') := fun L f k res h => by
  obtain ⟨vc, h1, h2⟩ := ev_EvV h
  obtain ⟨b, rfl, h3⟩ := asBool_some h2
  cases b with
  | true =>
    obtain ⟨v, h4, h5⟩ := ev_EvV (show ev x' L f k = some res from h3)
    refine ⟨v, h5, fun r n a he => ?_⟩
    obtain ⟨_, g1⟩ := copd_eval hc h1 he
    obtain ⟨g2, g3⟩ := copd_eval hx h4 he
    refine ⟨g2, fun op ho w => ?_⟩
    simp only [execOp, ho, g1, g3]
    rfl
  | false =>
    obtain ⟨v, h4, h5⟩ := ev_EvV (show ev y' L f k = some res from h3)
    refine ⟨v, h5, fun r n a he => ?_⟩
    obtain ⟨_, g1⟩ := copd_eval hc h1 he
    obtain ⟨g2, g3⟩ := copd_eval hy h4 he
    refine ⟨g2, fun op ho w => ?_⟩
    simp only [execOp, ho, g1, g3]
    rfl

theorem nilck_s {x : Operand} {y : Opd} (hc : copd live cx len x = some y) : PuS P live cx len (.nilCheck x) (nilckP y) := fun L f k res h => by
  obtain ⟨v, h1, h2⟩ := ev_EvV h
  cases v with
  | pointer p => cases p with
    | none => cases h2
    | some p =>
      refine ⟨_, h2, fun r n a he => ?_⟩
      obtain ⟨g1, g2⟩ := copd_eval hc h1 he
      refine ⟨g1, fun op ho w => ?_⟩
      simp only [execOp, ho, g2]
      rfl
  | func fn a b => cases fn with
    | func g =>
      refine ⟨_, h2, fun r n a he => ?_⟩
      obtain ⟨g1, g2⟩ := copd_eval hc h1 he
      refine ⟨g1, fun op ho w => ?_⟩
      simp only [execOp, ho, g2]
      rfl
    | _ => cases h2
  | _ => cases h2

/-! numbers -/
omit [Val] in
theorem asInt_some {v : Value} {k : IntKind → Int → R} {res : Value × H × Nat} (h : Vw.asInt v k = some res) : ∃ kd m, v = .int kd m ∧ k kd m = some res := by
  cases v with
  | int kd m => exact ⟨kd, m, rfl, h⟩
  | _ => cases h
omit [Val] in
theorem asNat_some {v : Value} {k : Nat → R} {res : Value × H × Nat} (h : Vw.asNat v k = some res) : ∃ kd m, v = .int kd (.ofNat m) ∧ m ≤ MAX ∧ k m = some res := by
  cases v with
  | int kd m => cases m with
    | ofNat m =>
      obtain ⟨h1, h2⟩ := boolK' h
      exact ⟨kd, m, rfl, Nat.le_of_ble_eq_true h1, h2⟩
    | negSucc m => cases h
  | _ => cases h
omit [Val] in
theorem asPtr_some {v : Value} {k : Addr → R} {res : Value × H × Nat} (h : Vw.asPtr v k = some res) : ∃ a, v = .pointer (some a) ∧ k a = some res := by
  cases v with
  | pointer a => cases a with
    | none => cases h
    | some a => exact ⟨a, rfl, h⟩
  | _ => cases h
omit [Val] in
theorem asSl_some {v : Value} {k : Option Addr → Nat → Nat → R} {res : Value × H × Nat} (h : Vw.asSl v k = some res) : ∃ a l c, v = .slice a l c ∧ k a l c = some res := by
  cases v with
  | slice a l c => exact ⟨a, l, c, rfl, h⟩
  | _ => cases h
omit [Val] in
theorem asAgg_some {v : Value} {k : List Value → R} {res : Value × H × Nat} (h : Vw.asAgg v k = some res) : ∃ cs, v = .agg ⟨cs⟩ ∧ k cs = some res := by
  cases v with
  | agg cs => obtain ⟨cs⟩ := cs; exact ⟨cs, rfl, h⟩
  | _ => cases h
omit [Val] in
theorem asStr_some {v : Value} {k : ByteArray → R} {res : Value × H × Nat} (h : Vw.asStr v k = some res) : ∃ s, v = .string s ∧ k s = some res := by
  cases v with
  | string s => exact ⟨s, rfl, h⟩
  | _ => cases h

omit [Val] in
theorem wrap_in (kd : IntKind) (m : Int) (h0 : 0 ≤ m) (h1 : m < (2 : Int) ^ (kd.bits - 1)) : kd.wrap m = m := by
  have e : m % (2 ^ kd.bits : Int) = m := by
    refine Int.emod_eq_of_lt h0 (Int.lt_of_lt_of_le h1 ?_)
    cases kd <;> decide
  unfold IntKind.wrap
  simp only [e]
  have : ¬ m ≥ (2 ^ (kd.bits - 1) : Int) := by omega
  simp [this]

omit [Val] in
theorem wrapK_some {kd : IntKind} {m : Int} {k : Int → R} {res : Value × H × Nat} (h : wrapK kd m k = some res) : k (kd.wrap m) = some res := by
  have gen : ∀ kd : IntKind, forceI (kd.wrap m) k = some res → k (kd.wrap m) = some res := fun kd h => by rw [forceI_eq] at h; exact h
  cases kd with
  | i8 => exact gen _ h
  | i16 => exact gen _ h
  | i32 => exact gen _ h
  | u64 => exact gen _ h
  | i64 =>
    cases m with
    | ofNat m =>
      obtain ⟨h1, h2⟩ := boolK' h
      rw [forceN_eq] at h2
      have h3 : m ≤ 9223372036854775807 := Nat.le_of_ble_eq_true h1
      rw [wrap_in .i64 (Int.ofNat m) (Int.natCast_nonneg m) (by show (m : Int) < 2 ^ 63; omega)]
      exact h2
    | negSucc m =>
      obtain ⟨h1, h2⟩ := boolK' h
      rw [forceN_eq] at h2
      have h3 : m ≤ 9223372036854775807 := Nat.le_of_ble_eq_true h1
      have e : IntKind.i64.wrap (Int.negSucc m) = Int.negSucc m := by
        unfold IntKind.wrap
        have e1 : Int.negSucc m % (2 ^ IntKind.i64.bits : Int) = 18446744073709551616 - 1 - m := by
          show Int.negSucc m % 18446744073709551616 = _
          omega
        simp only [e1]
        have e2 : (IntKind.i64.signed && decide ((18446744073709551616 - 1 - m : Int) ≥ 2 ^ (IntKind.i64.bits - 1))) = true := by
          show (true && decide ((18446744073709551616 - 1 - m : Int) ≥ 9223372036854775808)) = true
          simp
          omega
        rw [if_pos e2]
        show (18446744073709551616 - 1 - m : Int) - 18446744073709551616 = _
        omega
      rw [e]
      exact h2
  | u8 =>
    cases m with
    | ofNat m =>
      have h1 : forceN (Nat.mod m 256) (fun m => k (.ofNat m)) = some res := h
      rw [forceN_eq] at h1
      exact h1
    | negSucc m => exact gen .u8 h
  | u16 =>
    cases m with
    | ofNat m =>
      have h1 : forceN (Nat.mod m 65536) (fun m => k (.ofNat m)) = some res := h
      rw [forceN_eq] at h1
      exact h1
    | negSucc m => exact gen .u16 h
  | u32 =>
    cases m with
    | ofNat m =>
      have h1 : forceN (Nat.mod m 4294967296) (fun m => k (.ofNat m)) = some res := h
      rw [forceN_eq] at h1
      exact h1
    | negSucc m => exact gen .u32 h
omit [Val] in
theorem mkI_some {kd : IntKind} {m : Int} {k : Value → R} {res : Value × H × Nat} (h : mkI kd m k = some res) : k (.int kd (kd.wrap m)) = some res := wrapK_some h
def Plain (n : Int) : Prop := ∀ m, n = .ofNat m → m ≤ 18446744073709551615
theorem Plain.vI {n : Int} (h : Plain n) : vI n = n := vI_plain h
omit [Val] in
theorem Plain.nat {m : Nat} (h : m ≤ 18446744073709551615) : Plain (.ofNat m) := fun q hq => by cases hq; exact h
omit [Val] in
theorem Plain.neg (m : Nat) : Plain (.negSucc m) := fun q hq => by cases hq
omit [Val] in
theorem plI_some {m : Int} {k : R} {res : Value × H × Nat} (h : plI m k = some res) : Plain m ∧ k = some res := by
  cases m with
  | ofNat m => exact ⟨.nat (Nat.le_of_ble_eq_true (boolK' h).1), (boolK' h).2⟩
  | negSucc m => exact ⟨.neg m, h⟩
omit [Val] in
theorem plE_some {m : Int} {t e : R} {res : Value × H × Nat} (h : plE m t e = some res) : (Plain m ∧ t = some res) ∨ e = some res := by
  cases m with
  | ofNat m =>
    rcases boolK (show @Bool.rec (fun _ => R) e t (Nat.ble m 18446744073709551615) = some res from h) with ⟨h1, h2⟩ | ⟨_, h2⟩
    · exact .inl ⟨.nat (Nat.le_of_ble_eq_true h1), h2⟩
    · exact .inr h2
  | negSucc m => exact .inl ⟨.neg m, h⟩
omit [Val] in
theorem chk_some {v : Value} {k : Value → R} {res : Value × H × Nat} (h : chk v k = some res) : ∃ kd m, v = .int kd m ∧ Plain m ∧ k (.int kd m) = some res := by
  obtain ⟨kd, m, rfl, h1⟩ := asInt_some h
  obtain ⟨h2, h3⟩ := plI_some h1
  exact ⟨kd, m, rfl, h2, h3⟩
omit [Val] in
theorem lookL_some {o a b : Nat} {k : Value → R} {res : Value × H × Nat} : ∀ {T : List Row}, lookL T o a b k = some res → ∃ w ∈ T, w.o = o ∧ w.a = a ∧ w.b = b ∧ k w.v = some res
  | [], h => by cases h
  | ⟨o', a', b', v⟩ :: T, h => by
    have h1 : @Bool.rec (fun _ => R) (lookL T o a b k) (@Bool.rec (fun _ => R) (lookL T o a b k) (@Bool.rec (fun _ => R) (lookL T o a b k) (k v) (Nat.beq o' o)) (Nat.beq b' b)) (Nat.beq a' a) = some res := h
    have rest : lookL T o a b k = some res → ∃ w ∈ (⟨o', a', b', v⟩ :: T : List Row), w.o = o ∧ w.a = a ∧ w.b = b ∧ k w.v = some res := fun h => by
      obtain ⟨w, hw, h2⟩ := lookL_some h
      exact ⟨w, List.mem_cons_of_mem _ hw, h2⟩
    rcases boolK h1 with ⟨e1, h2⟩ | ⟨_, h2⟩
    · rcases boolK h2 with ⟨e2, h3⟩ | ⟨_, h3⟩
      · rcases boolK h3 with ⟨e3, h4⟩ | ⟨_, h4⟩
        · exact ⟨_, List.mem_cons_self .., Nat.eq_of_beq_eq_true e3, Nat.eq_of_beq_eq_true e1, Nat.eq_of_beq_eq_true e2, h4⟩
        · exact rest h4
      · exact rest h3
    · exact rest h2
omit [Val] in
theorem look_some {o a b : Nat} {k : Value → R} {res : Value × H × Nat} {T : Tab} (h : look T o a b k = some res) : ∃ w, T.has w ∧ w.o = o ∧ w.a = a ∧ w.b = b ∧ k w.v = some res := by
  unfold look at h
  rw [Tr.getK_eq] at h
  cases ha : T.at (kyT a b) with
  | none => rw [ha] at h; cases h
  | some l =>
    rw [ha] at h
    obtain ⟨w, hw, h2⟩ := lookL_some h
    exact ⟨w, ⟨_, _, ha, hw⟩, h2⟩
omit [Val] in
theorem sym_some {T : Tab} {o : Nat} {a b : Int} {k : Value → R} {res : Value × H × Nat} (h : sym T o a b k = some res) : ∃ w, T.has w ∧ w.o = o ∧ a = .ofNat w.a ∧ b = .ofNat w.b ∧ k w.v = some res := by
  cases a with
  | negSucc a => cases h
  | ofNat a => cases b with
    | negSucc b => cases h
    | ofNat b =>
      obtain ⟨w, hw, h1, h2, h3, h4⟩ := look_some (show look T o a b k = some res from h)
      exact ⟨w, hw, h1, by rw [h2], by rw [h3], h4⟩
omit [Val] in
theorem wrap_plain (kd : IntKind) (m : Int) : Plain (kd.wrap m) := fun q hq => by
  have h1 : m % (2 ^ kd.bits : Int) < 2 ^ kd.bits := Int.emod_lt_of_pos _ (by cases kd <;> decide)
  have h2 : (2 ^ kd.bits : Int) ≤ 18446744073709551616 := by cases kd <;> decide
  have h3 : kd.wrap m ≤ m % (2 ^ kd.bits : Int) := by
    unfold IntKind.wrap
    simp only
    split
    · have : (0 : Int) ≤ 2 ^ kd.bits := by cases kd <;> decide
      omega
    · exact Int.le_refl _
  rw [hq] at h3
  have : (q : Int) ≤ m % (2 ^ kd.bits : Int) := h3
  omega
omit [Val] in
theorem kEq_eq {x y : IntKind} (h : kEq x y = true) : x = y := by
  cases x <;> cases y <;> first | rfl | cases h
omit [Val] in
theorem semV_some {s : Sem Value} {k : Value → R} {res : Value × H × Nat} (h : semV s k = some res) : ∃ v, s = .pure v ∧ k v = some res := by
  cases s with
  | pure v => exact ⟨v, rfl, h⟩
  | _ => cases h
omit [Val] in
theorem ltI_eq (x y : Int) : ltI x y = decide (x < y) := by
  cases x with
  | ofNat x => cases y with
    | ofNat y =>
      show Nat.ble (x + 1) y = _
      rw [Bool.eq_iff_iff, Nat.ble_eq]
      simp
      omega
    | negSucc y =>
      show false = _
      symm
      simp
      omega
  | negSucc x => cases y with
    | ofNat y =>
      show true = _
      symm
      simp
      omega
    | negSucc y =>
      show Nat.ble (y + 1) x = _
      rw [Bool.eq_iff_iff, Nat.ble_eq]
      simp
      omega
omit [Val] in
theorem eqI_eq (x y : Int) : eqI x y = (x == y) := by
  cases x with
  | ofNat x => cases y with
    | ofNat y =>
      show Nat.beq x y = _
      rw [Bool.eq_iff_iff, Nat.beq_eq]
      simp
      omega
    | negSucc y => rfl
  | negSucc x => cases y with
    | ofNat y => rfl
    | negSucc y =>
      show Nat.beq x y = _
      rw [Bool.eq_iff_iff, Nat.beq_eq]
      simp

/-- a function on two numbers of a kind is the model's operation -/
def GS (P : Program) (op : BinOp) (g : IntKind → Int → Int → (Value → R) → R) : Prop := ∀ kd x y k res, Plain x → Plain y → g kd x y k = some res → ∃ v, (∀ n r, wf0 n r v) ∧ (∀ r, ren r v = v) ∧ k v = some res ∧
  ∀ t w, (Go.binOp op t (.int kd x) (.int kd y)).run P w = .ok v w

theorem int_plain (kd : IntKind) {m : Int} (h : Plain m) : (∀ n r, wf0 n r (.int kd m)) ∧ ∀ r, ren r (.int kd m) = .int kd m := ⟨fun _ _ => trivial, fun _ => congrArg (Value.int kd) h.vI⟩
theorem bool_plain (b : Bool) : (∀ n r, wf0 n r (.bool b)) ∧ ∀ r, ren r (.bool b) = .bool b := ⟨fun _ _ => trivial, fun _ => rfl⟩

omit [Val] in
theorem not_lt' (x y : Int) : (!decide (x < y)) = decide (y ≤ x) := by
  rw [Bool.eq_iff_iff]
  simp
omit [Val] in
theorem addG_eq (kd : IntKind) (x y : Int) (k : Value → R) : addG kd x y k = mkI kd (x + y) k := by cases x <;> cases y <;> rfl
theorem add_g : GS P .add addG := fun kd x y k res _ _ h => ⟨_, (int_plain _ (wrap_plain _ _)).1, (int_plain _ (wrap_plain _ _)).2, mkI_some (addG_eq kd x y k ▸ h), fun t w => by simp [Go.binOp, Op.intArith]⟩
theorem sub_g : GS P .sub subG := fun kd x y k res _ _ h => ⟨_, (int_plain _ (wrap_plain _ _)).1, (int_plain _ (wrap_plain _ _)).2, mkI_some h, fun t w => by simp [Go.binOp, Op.intArith]; rfl⟩
theorem mul_g : GS P .mul mulG := fun kd x y k res _ _ h => ⟨_, (int_plain _ (wrap_plain _ _)).1, (int_plain _ (wrap_plain _ _)).2, mkI_some h, fun t w => by simp [Go.binOp, Op.intArith]⟩
theorem eq_g : GS P .eql eqG := fun kd x y k res _ _ h => ⟨_, (bool_plain _).1, (bool_plain _).2, h, fun t w => by simp [Go.binOp, Op.intCmp, eqI_eq]⟩
theorem ne_g : GS P .neq neG := fun kd x y k res _ _ h => ⟨_, (bool_plain _).1, (bool_plain _).2, h, fun t w => by simp [Go.binOp, Op.intCmp, eqI_eq, bne]⟩
theorem lt_g : GS P .lss ltG := fun kd x y k res _ _ h => ⟨_, (bool_plain _).1, (bool_plain _).2, h, fun t w => by simp [Go.binOp, Op.intCmp, ltI_eq]⟩
theorem gt_g : GS P .gtr gtG := fun kd x y k res _ _ h => ⟨_, (bool_plain _).1, (bool_plain _).2, h, fun t w => by simp [Go.binOp, Op.intCmp, ltI_eq]⟩
theorem le_g : GS P .leq leG := fun kd x y k res _ _ h => ⟨_, (bool_plain _).1, (bool_plain _).2, h, fun t w => by simp [Go.binOp, Op.intCmp, ltI_eq, not_lt']⟩
theorem ge_g : GS P .geq geG := fun kd x y k res _ _ h => ⟨_, (bool_plain _).1, (bool_plain _).2, h, fun t w => by simp [Go.binOp, Op.intCmp, ltI_eq, not_lt']⟩
end
end Go.Proofs.YtccbdaffjkdpgaaGreatDoor.Vw
namespace Go.Proofs.YtccbdaffjkdpgaaGreatDoor.Vw

section
variable [Val] {P : Program} {ty : Ty} {live : List Nat} {cx : Cx} {len : Nat} {res : Value × H × Nat}

omit [Val] in
theorem wrap_mod (kd : IntKind) (m m' : Int) (h : m % (2 ^ kd.bits : Int) = m' % (2 ^ kd.bits : Int)) : kd.wrap m = kd.wrap m' := by
  unfold IntKind.wrap
  simp only [h]
omit [Val] in
theorem toNat_mod (x k : Nat) : ((x : Int) % 2 ^ k).toNat = x % 2 ^ k := by
  have e2 : (2 ^ k : Int) = ((2 ^ k : Nat) : Int) := by push_cast; rfl
  rw [e2]
  omega
omit [Val] in
theorem bits_and (kd : IntKind) (x y : Nat) : kd.wrap ((BitVec.ofInt kd.bits (Int.ofNat x) &&& BitVec.ofInt kd.bits (Int.ofNat y)).toNat : Int) = kd.wrap (Int.ofNat (Nat.land x y)) := by
  apply wrap_mod
  have e : (BitVec.ofInt kd.bits (Int.ofNat x) &&& BitVec.ofInt kd.bits (Int.ofNat y)).toNat = (x &&& y) % 2 ^ kd.bits := by
    rw [BitVec.toNat_and]
    simp [BitVec.ofInt, Nat.and_mod_two_pow, toNat_mod]
  rw [e]
  show ((((x &&& y) % 2 ^ kd.bits : Nat) : Int)) % (2 ^ kd.bits : Int) = ((x &&& y : Nat) : Int) % (2 ^ kd.bits : Int)
  have e2 : (2 ^ kd.bits : Int) = ((2 ^ kd.bits : Nat) : Int) := by push_cast; rfl
  rw [e2]
  norm_cast
  exact Nat.mod_mod _ _
omit [Val] in
theorem bits_or (kd : IntKind) (x y : Nat) : kd.wrap ((BitVec.ofInt kd.bits (Int.ofNat x) ||| BitVec.ofInt kd.bits (Int.ofNat y)).toNat : Int) = kd.wrap (Int.ofNat (Nat.lor x y)) := by
  apply wrap_mod
  have e : (BitVec.ofInt kd.bits (Int.ofNat x) ||| BitVec.ofInt kd.bits (Int.ofNat y)).toNat = (x ||| y) % 2 ^ kd.bits := by
    rw [BitVec.toNat_or]
    simp [BitVec.ofInt, Nat.or_mod_two_pow, toNat_mod]
  rw [e]
  show ((((x ||| y) % 2 ^ kd.bits : Nat) : Int)) % (2 ^ kd.bits : Int) = ((x ||| y : Nat) : Int) % (2 ^ kd.bits : Int)
  have e2 : (2 ^ kd.bits : Int) = ((2 ^ kd.bits : Nat) : Int) := by push_cast; rfl
  rw [e2]
  norm_cast
  exact Nat.mod_mod _ _

omit [Val] in
theorem intBits_run (op : BinOp) (hop : op = .and ∨ op = .or ∨ op = .xor ∨ op = .andNot) (kd : IntKind) (x y : Int) : ∃ m, Op.intBits op kd x y = .pure (.int kd m) := by
  rcases hop with rfl | rfl | rfl | rfl <;> exact ⟨_, rfl⟩
theorem bits_g (op : BinOp) (hop : op = .and ∨ op = .or ∨ op = .xor ∨ op = .andNot) : GS P op (bitsG op) := fun kd x y k res _ _ h => by
  obtain ⟨m, hm⟩ := intBits_run op hop kd x y
  obtain ⟨v, h1, h2⟩ := semV_some h
  rw [hm] at h1
  cases h1
  obtain ⟨kd', m', hv, hp, h3⟩ := chk_some h2
  cases hv
  refine ⟨_, (int_plain _ hp).1, (int_plain _ hp).2, h3, fun t w => ?_⟩
  have e : Go.binOp op t (.int kd x) (.int kd y) = Op.intBits op kd x y := by rcases hop with rfl | rfl | rfl | rfl <;> simp [Go.binOp]
  rw [e, hm]
  rfl
theorem and_g : GS P .and andG := fun kd x y k res hpx hpy h => by
  cases x with
  | negSucc x => exact bits_g .and (.inl rfl) kd _ _ k res hpx hpy h
  | ofNat x => cases y with
    | negSucc y => exact bits_g .and (.inl rfl) kd _ _ k res hpx hpy h
    | ofNat y =>
      have h1 : forceN (Nat.land x y) (fun m => mkI kd (.ofNat m) k) = some res := h
      rw [forceN_eq] at h1
      refine ⟨_, (int_plain _ (wrap_plain _ _)).1, (int_plain _ (wrap_plain _ _)).2, mkI_some h1, fun t w => ?_⟩
      rw [← bits_and]
      simp only [Go.binOp, ne_eq, not_true_eq_false, if_false]
      rfl
theorem or_g : GS P .or orG := fun kd x y k res hpx hpy h => by
  cases x with
  | negSucc x => exact bits_g .or (.inr (.inl rfl)) kd _ _ k res hpx hpy h
  | ofNat x => cases y with
    | negSucc y => exact bits_g .or (.inr (.inl rfl)) kd _ _ k res hpx hpy h
    | ofNat y =>
      have h1 : forceN (Nat.lor x y) (fun m => mkI kd (.ofNat m) k) = some res := h
      rw [forceN_eq] at h1
      refine ⟨_, (int_plain _ (wrap_plain _ _)).1, (int_plain _ (wrap_plain _ _)).2, mkI_some h1, fun t w => ?_⟩
      rw [← bits_or]
      simp only [Go.binOp, ne_eq, not_true_eq_false, if_false]
      rfl
theorem div_semV (op : BinOp) (hop : op = .quo ∨ op = .rem) (kd : IntKind) (x y : Int) (k : Value → R) (res : Value × H × Nat) (h : semV (Op.intDiv op kd x y) (fun v => chk v k) = some res) :
    ∃ v, (∀ n r, wf0 n r v) ∧ (∀ r, ren r v = v) ∧ k v = some res ∧ ∀ t w, (Go.binOp op t (.int kd x) (.int kd y)).run P w = .ok v w := by
  obtain ⟨v, h1, h2⟩ := semV_some h
  have e : ∀ t, Go.binOp op t (.int kd x) (.int kd y) = Op.intDiv op kd x y := fun t => by rcases hop with rfl | rfl <;> simp [Go.binOp]
  have hv : ∃ m, v = .int kd m := by
    unfold Op.intDiv at h1
    by_cases hy : y = 0
    · rw [if_pos hy] at h1
      simp [runtimePanic, program, bind, Sem.bind] at h1
    · rw [if_neg hy] at h1
      rcases hop with rfl | rfl <;> (cases h1; exact ⟨_, rfl⟩)
  obtain ⟨m, rfl⟩ := hv
  obtain ⟨kd', m', hv, hp, h3⟩ := chk_some h2
  cases hv
  refine ⟨_, (int_plain _ hp).1, (int_plain _ hp).2, h3, fun t w => ?_⟩
  rw [e, h1]
  rfl
theorem quo_g : GS P .quo quoG := fun kd x y k res hpx hpy h => by
  cases x with
  | negSucc x => exact div_semV .quo (.inl rfl) kd _ _ k res h
  | ofNat x => cases y with
    | negSucc y => exact div_semV .quo (.inl rfl) kd _ _ k res h
    | ofNat y => cases y with
      | zero => cases h
      | succ y =>
        have h1 : mkI kd (.ofNat (x / (y + 1))) k = some res := h
        refine ⟨_, (int_plain _ (wrap_plain _ _)).1, (int_plain _ (wrap_plain _ _)).2, mkI_some h1, fun t w => ?_⟩
        have e : Int.ofNat (y + 1) ≠ 0 := by simp; omega
        simp only [Go.binOp, ne_eq, not_true_eq_false, if_false, Op.intDiv, e]
        rfl
theorem rem_g : GS P .rem remG := fun kd x y k res hpx hpy h => by
  cases x with
  | negSucc x => exact div_semV .rem (.inr rfl) kd _ _ k res h
  | ofNat x => cases y with
    | negSucc y => exact div_semV .rem (.inr rfl) kd _ _ k res h
    | ofNat y => cases y with
      | zero => cases h
      | succ y =>
        have h1 : forceN (x % (y + 1)) (fun m => k (.int kd (.ofNat m))) = some res := h
        rw [forceN_eq] at h1
        have hp : Plain (.ofNat (x % (y + 1))) := .nat (Nat.le_trans (Nat.mod_le _ _) (hpx x rfl))
        refine ⟨_, (int_plain _ hp).1, (int_plain _ hp).2, h1, fun t w => ?_⟩
        have e : Int.ofNat (y + 1) ≠ 0 := by simp; omega
        simp only [Go.binOp, ne_eq, not_true_eq_false, if_false, Op.intDiv, e]
        rfl

theorem ren_int {r : Ren} {kd : IntKind} {m : Int} : ren r (.int kd m) = .int kd (vI m) := rfl
theorem ren_nat {r : Ren} {kd : IntKind} {m : Nat} (h : m ≤ MAX) : ren r (.int kd (.ofNat m)) = .int kd (.ofNat m) := congrArg (Value.int kd) (Plain.nat (Nat.le_trans h (by decide))).vI
/-- a byte of a text -/
theorem ren_byte (r : Ren) (b : UInt8) : ren0 r (.int .u8 b.toNat) = .int .u8 b.toNat := congrArg (Value.int .u8) (Plain.nat (m := b.toNat) (by have := b.toNat_lt; omega)).vI
omit [Val] in
/-- The guard of a comparison says nothing of numbers. -/
theorem guard_int (op : BinOp) (t : TypeId) (x y : Operand) (kd kd' : IntKind) (m m' : Int) (w : World) : (eqGuard op t x y (.int kd m) (.int kd' m')).run P w = .ok () w := by
  unfold eqGuard
  cases op <;> rfl

theorem int2_s (ht : TyOk P ty) {op : BinOp} {o : Nat} (hop : o = op.ctorIdx) {g : IntKind → Int → Int → (Value → R) → R} (hg : GS P op g) {t u : TypeId} {x y : Operand} {x' y' : Opd} (hx : copd live cx len x = some x') (hy : copd live cx len y = some y') :
    PuS P live cx len (.binOp op t x y u) (int2 ty.tb o x' y' g) := fun L f k res h => by
  obtain ⟨v, h1, h2⟩ := ev_EvV h
  obtain ⟨v', h3, h4⟩ := ev_EvV h2
  obtain ⟨ka, m, rfl, h5⟩ := asInt_some h4
  obtain ⟨kb, m', rfl, h6⟩ := asInt_some h5
  obtain ⟨h7, h8⟩ := boolK' h6
  have hk := kEq_eq h7
  subst hk
  have row : sym ty.tb (Nat.add (Nat.mul o 16) ka.ctorIdx) m m' k = some res → ∃ v, k v = some res ∧ ∀ r n a, EnvR live cx len L f n r a → wf n r v ∧ ∀ (oper : Oper), oper.op = .binOp op t x y u → ∀ w, (execOp a.eval oper).run P w = .ok (.value (ren r v)) w := fun h9 => by
    obtain ⟨w, hw, w1, rfl, rfl, w2⟩ := sym_some h9
    have hrow := ht.tab w hw
    refine ⟨w.v, w2, fun r n a he => ?_⟩
    obtain ⟨_, e1⟩ := copd_eval hx h1 he
    obtain ⟨_, e2⟩ := copd_eval hy h3 he
    obtain ⟨l1, l2, _⟩ := lit_ren hrow.lit n r
    refine ⟨wf_of_wf0 l1, fun oper ho wd => ?_⟩
    simp only [execOp, ho, e1, e2, ren_int]
    refine run_v ?_
    rw [l2]
    simp only [bind, Sem.run_bind', guard_int, Result.andThen_ok]
    exact hrow.bin op ka (by rw [w1, hop]; rfl) P t wd
  rcases plE_some h8 with ⟨p1, h9⟩ | h9
  · rcases plE_some h9 with ⟨p2, h10⟩ | h10
    · obtain ⟨u, g1, g2, g3, g4⟩ := hg ka m m' k res p1 p2 h10
      refine ⟨u, g3, fun r n a he => ?_⟩
      obtain ⟨_, e1⟩ := copd_eval hx h1 he
      obtain ⟨_, e2⟩ := copd_eval hy h3 he
      refine ⟨wf_of_wf0 (g1 n r), fun o ho w => ?_⟩
      simp only [execOp, ho, e1, e2, ren_int, p1.vI, p2.vI]
      refine run_v ?_
      rw [g2]
      simp only [bind, Sem.run_bind', guard_int, Result.andThen_ok]
      exact g4 t w
    · exact row h10
  · exact row h9

theorem mm_s (ht : TyOk P ty) {mx : Bool} {c : Go.Call} {x y : Operand} {x' y' : Opd} (hc : c.callee = .builtin (if mx then .max else .min)) (ha : c.args.toList = [x, y])
    (hx : copd live cx len x = some x') (hy : copd live cx len y = some y') :
    PuS P live cx len (.call c) (mmP ty.tb mx x' y') := fun L f k res h => by
  obtain ⟨v, h1, h2⟩ := ev_EvV h
  obtain ⟨v', h3, h4⟩ := ev_EvV h2
  obtain ⟨ka, m, rfl, h5⟩ := asInt_some h4
  obtain ⟨kb, m', rfl, h6⟩ := asInt_some h5
  obtain ⟨h7, h8⟩ := boolK' h6
  have hk := kEq_eq h7
  subst hk
  have hargs : c.args = #[x, y] := Array.ext' (by simpa using ha)
  have row : sym ty.tb (Nat.add (Nat.mul (Bool.rec 45 46 mx) 16) ka.ctorIdx) m m' k = some res → ∃ v, k v = some res ∧ ∀ r n a, EnvR live cx len L f n r a → wf n r v ∧ ∀ (oper : Oper), oper.op = .call c → ∀ w, (execOp a.eval oper).run P w = .ok (.value (ren r v)) w := fun h9 => by
    obtain ⟨w, hw, w1, rfl, rfl, w2⟩ := sym_some h9
    have hrow := ht.tab w hw
    refine ⟨w.v, w2, fun r n a he => ?_⟩
    obtain ⟨_, e1⟩ := copd_eval hx h1 he
    obtain ⟨_, e2⟩ := copd_eval hy h3 he
    obtain ⟨l1, l2, _⟩ := lit_ren hrow.lit n r
    refine ⟨wf_of_wf0 l1, fun oper ho wd => ?_⟩
    have hm := hrow.mm mx ka (by rw [w1]; cases mx <;> rfl)
    simp only [execOp, ho, resolve, hc, hargs]
    rw [l2, hm]
    cases mx
    all_goals simp [e1, e2, ren_int, invoke, builtin, Builtin.max_, Builtin.min_, Builtin.max2, Builtin.min2]
  have fin : Plain m → Plain m' → mmG mx ka m m' k = some res → ∃ v, k v = some res ∧ ∀ r n a, EnvR live cx len L f n r a → wf n r v ∧ ∀ (oper : Oper), oper.op = .call c → ∀ w, (execOp a.eval oper).run P w = .ok (.value (ren r v)) w := fun p1 p2 h9 => by
    have key : ∃ q, k (.int ka q) = some res ∧ q = (if mx then (if m' > m then m' else m) else (if m' < m then m' else m)) := by
      cases mx with
      | true =>
        rcases boolK (show @Bool.rec (fun _ => R) (k (.int ka m)) (k (.int ka m')) (ltI m m') = some res from h9) with ⟨g1, g2⟩ | ⟨g1, g2⟩
        · rw [ltI_eq, decide_eq_true_eq] at g1
          exact ⟨m', g2, by simp [g1]⟩
        · rw [ltI_eq, decide_eq_false_iff_not] at g1
          exact ⟨m, g2, by simp; omega⟩
      | false =>
        rcases boolK (show @Bool.rec (fun _ => R) (k (.int ka m)) (k (.int ka m')) (ltI m' m) = some res from h9) with ⟨g1, g2⟩ | ⟨g1, g2⟩
        · rw [ltI_eq, decide_eq_true_eq] at g1
          exact ⟨m', g2, by simp [g1]⟩
        · rw [ltI_eq, decide_eq_false_iff_not] at g1
          exact ⟨m, g2, by simp; omega⟩
    obtain ⟨q, g1, g2⟩ := key
    have hpq : Plain q := by
      rw [g2]
      cases mx
      · show Plain (if m' < m then m' else m)
        split <;> assumption
      · show Plain (if m' > m then m' else m)
        split <;> assumption
    refine ⟨_, g1, fun r n a he => ?_⟩
    obtain ⟨_, e1⟩ := copd_eval hx h1 he
    obtain ⟨_, e2⟩ := copd_eval hy h3 he
    refine ⟨trivial, fun o ho w => ?_⟩
    simp only [execOp, ho, resolve, hc, hargs]
    rw [show ren r (.int ka q) = .int ka q from congrArg (Value.int ka) hpq.vI]
    subst g2
    cases mx
    all_goals simp [e1, e2, ren_int, p1.vI, p2.vI, invoke, builtin, Builtin.max_, Builtin.min_, Builtin.max2, Builtin.min2]
  rcases plE_some h8 with ⟨p1, h9⟩ | h9
  · rcases plE_some h9 with ⟨p2, h10⟩ | h10
    · exact fin p1 p2 h10
    · exact row h10
  · exact row h9

/-! shifts -/
theorem sh_s (ht : TyOk P ty) {left : Bool} {t u : TypeId} {x y : Operand} {x' y' : Opd} (hx : copd live cx len x = some x') (hy : copd live cx len y = some y') :
    PuS P live cx len (.binOp (if left then .shl else .shr) t x y u) (shP ty.tb left x' y') := fun L f k res h => by
  obtain ⟨v, h1, h2⟩ := ev_EvV h
  obtain ⟨v', h3, h4⟩ := ev_EvV h2
  obtain ⟨ka, m, rfl, h5⟩ := asInt_some h4
  obtain ⟨kb, b, rfl, hbm, h6⟩ := asNat_some h5
  cases m with
  | negSucc m => cases h6
  | ofNat m =>
    have hz : ¬ (Int.ofNat b < 0) := by simp
    rcases boolK (show @Bool.rec (fun _ => R) (look ty.tb (Nat.add (Bool.rec 656 640 left) ka.ctorIdx) m b k) _ (Nat.ble m 18446744073709551615) = some res from h6) with ⟨hp, h7⟩ | ⟨_, h7⟩
    rotate_left
    · obtain ⟨w, hw, w1, w3, w4, w2⟩ := look_some h7
      have hrow := ht.tab w hw
      refine ⟨w.v, w2, fun r n a he => ?_⟩
      obtain ⟨_, e1⟩ := copd_eval hx h1 he
      obtain ⟨_, e2⟩ := copd_eval hy h3 he
      obtain ⟨l1, l2, _⟩ := lit_ren hrow.lit n r
      refine ⟨wf_of_wf0 l1, fun oper ho wd => ?_⟩
      simp only [execOp, ho, e1, e2]
      rw [ren_nat hbm, ren_int]
      refine run_v ?_
      rw [l2]
      simp only [bind, Sem.run_bind', guard_int, Result.andThen_ok]
      subst w3 w4
      cases left with
      | true => exact hrow.shl ka kb w1 P t wd
      | false => exact hrow.shr ka kb w1 P t wd
    have hpm : Plain (.ofNat m) := .nat (Nat.le_of_ble_eq_true hp)
    cases left with
    | true =>
      have h8 : mkI ka (.ofNat (m * 2 ^ (min b ka.bits))) k = some res := h7
      refine ⟨_, mkI_some h8, fun r n a he => ?_⟩
      have hren := (int_plain ka (wrap_plain ka (.ofNat (m * 2 ^ (min b ka.bits))))).2 r
      obtain ⟨_, e1⟩ := copd_eval hx h1 he
      obtain ⟨_, e2⟩ := copd_eval hy h3 he
      refine ⟨trivial, fun o ho w => ?_⟩
      simp only [execOp, ho, e1, e2]
      rw [ren_nat hbm, ren_int, hpm.vI]
      refine run_v ?_
      rw [hren]
      simp only [bind, Sem.run_bind', guard_int, Result.andThen_ok]
      simp only [if_true, Go.binOp, Op.shift, hz, if_false]
      have e : (Int.ofNat (m * 2 ^ (min b ka.bits)) : Int) = Int.ofNat m * 2 ^ (min (Int.ofNat b).toNat ka.bits) := by
        show ((m * 2 ^ (min b ka.bits) : Nat) : Int) = (m : Int) * 2 ^ (min b ka.bits)
        push_cast
        rfl
      rw [e]
      rfl
    | false =>
      have h8 : forceN (m / 2 ^ (min b ka.bits)) (fun m => k (.int ka (.ofNat m))) = some res := h7
      rw [forceN_eq] at h8
      refine ⟨_, h8, fun r n a he => ?_⟩
      have hren := (int_plain ka (Plain.nat (m := m / 2 ^ (min b ka.bits)) (Nat.le_trans (Nat.div_le_self _ _) (hpm m rfl)))).2 r
      obtain ⟨_, e1⟩ := copd_eval hx h1 he
      obtain ⟨_, e2⟩ := copd_eval hy h3 he
      refine ⟨trivial, fun o ho w => ?_⟩
      simp only [execOp, ho, e1, e2]
      rw [ren_nat hbm, ren_int, hpm.vI]
      refine run_v ?_
      rw [hren]
      simp only [bind, Sem.run_bind', guard_int, Result.andThen_ok]
      simp only [if_false, Bool.false_eq_true, Go.binOp, Op.shift, hz]
      have e : (Int.ofNat (m / 2 ^ (min b ka.bits)) : Int) = (Int.ofNat m).fdiv (2 ^ (min (Int.ofNat b).toNat ka.bits)) := by
        show ((m / 2 ^ (min b ka.bits) : Nat) : Int) = (m : Int).fdiv (2 ^ (min b ka.bits))
        rw [Int.fdiv_eq_ediv_of_nonneg _ (Int.le_of_lt (Int.pow_pos (by omega)))]
        push_cast
        rfl
      rw [e]
      rfl
end
end Go.Proofs.YtccbdaffjkdpgaaGreatDoor.Vw
namespace Go.Proofs.YtccbdaffjkdpgaaGreatDoor.Vw

section
variable [Val] {P : Program} {ty : Ty} {live : List Nat} {cx : Cx} {len : Nat} {res : Value × H × Nat}

theorem cellsK_some {v : Value} {k : List Value → R} (h : cellsK v k = some res) {n : Nat} {r : Ren} (hw : wf n r v) :
    ∃ c, k c = some res ∧ (∀ x ∈ c, wf0 n r x) ∧ (ren r v).cells.toList = c.map (ren0 r) := by
  cases v with
  | agg cs =>
    obtain ⟨cs⟩ := cs
    refine ⟨cs, h, hw, ?_⟩
    simp [ren, ren1, Value.cells]
  | tuple vs => cases h
  | bool b => exact ⟨_, h, fun x hx => by rw [List.mem_singleton.1 hx]; exact hw, rfl⟩
  | int b c => exact ⟨_, h, fun x hx => by rw [List.mem_singleton.1 hx]; exact hw, rfl⟩
  | float b c => exact ⟨_, h, fun x hx => by rw [List.mem_singleton.1 hx]; exact hw, rfl⟩
  | complex b c d => exact ⟨_, h, fun x hx => by rw [List.mem_singleton.1 hx]; exact hw, rfl⟩
  | string b => exact ⟨_, h, fun x hx => by rw [List.mem_singleton.1 hx]; exact hw, rfl⟩
  | pointer b =>
    refine ⟨_, h, fun x hx => by rw [List.mem_singleton.1 hx]; exact hw, ?_⟩
    cases b <;> rfl
  | slice b c d =>
    refine ⟨_, h, fun x hx => by rw [List.mem_singleton.1 hx]; exact hw, ?_⟩
    cases b with
    | none => rfl
    | some b =>
      show (rsl r b c d).cells.toList = [rsl r b c d]
      unfold rsl
      split
      · rfl
      · split <;> rfl
  | map b =>
    refine ⟨_, h, fun x hx => by rw [List.mem_singleton.1 hx]; exact hw, ?_⟩
    cases b <;> rfl
  | chan b => exact ⟨_, h, fun x hx => by rw [List.mem_singleton.1 hx]; exact hw, rfl⟩
  | func b c d => exact ⟨_, h, fun x hx => by rw [List.mem_singleton.1 hx]; exact hw, rfl⟩
  | nilFunc => exact ⟨_, h, fun x hx => by rw [List.mem_singleton.1 hx]; exact hw, rfl⟩
  | iface b c => exact ⟨_, h, fun x hx => by rw [List.mem_singleton.1 hx]; exact hw, rfl⟩
  | nilIface => exact ⟨_, h, fun x hx => by rw [List.mem_singleton.1 hx]; exact hw, rfl⟩

omit [Val] in
theorem setL_len : ∀ (l : List Value) (i : Nat) (r : List Value), (setL l i r).length = l.length
  | [], i, r => by unfold setL; simp
  | a :: l, 0, [] => by unfold setL; simp
  | a :: l, 0, v :: r => by unfold setL; simp [setL_len l 0 r]
  | a :: l, i + 1, r => by unfold setL; simp [setL_len l i r]
omit [Val] in
theorem setL_get : ∀ (l : List Value) (i : Nat) (r : List Value), i + r.length ≤ l.length → ∀ j, (setL l i r)[j]? = if i ≤ j ∧ j < i + r.length then r[j - i]? else l[j]?
  | [], i, r, h, j => by
    have : r = [] := by cases r <;> simp_all
    subst this
    unfold setL
    rw [if_neg (by simp)]
  | a :: l, 0, [], h, j => by
    unfold setL
    rw [if_neg (by simp)]
  | a :: l, 0, v :: r, h, j => by
    unfold setL
    cases j with
    | zero => simp
    | succ j =>
      have ih := setL_get l 0 r (by simp at h ⊢; omega) j
      simp only [List.getElem?_cons_succ, ih]
      by_cases hj : j < r.length
      · rw [if_pos (by simp; exact hj), if_pos (by simp; omega)]; simp
      · rw [if_neg (by simp; omega), if_neg (by simp; omega)]
  | a :: l, i + 1, r, h, j => by
    unfold setL
    cases j with
    | zero => rw [if_neg (by simp)]; rfl
    | succ j =>
      have ih := setL_get l i r (by simp at h; omega) j
      simp only [List.getElem?_cons_succ, ih]
      by_cases hj : i ≤ j ∧ j < i + r.length
      · rw [if_pos hj, if_pos (by omega), show j + 1 - (i + 1) = j - i by omega]
      · rw [if_neg hj, if_neg (by omega)]

omit [Val] in
theorem fold_set (off : Nat) : ∀ (c : List Value) (k : Nat) (cs : Array Value), off + k + c.length ≤ cs.size →
    ((c.zipIdx k).foldl (fun cs (p : Value × Nat) => cs.setIfInBounds (off + p.2) p.1) cs).size = cs.size ∧
    ∀ j, ((c.zipIdx k).foldl (fun cs (p : Value × Nat) => cs.setIfInBounds (off + p.2) p.1) cs)[j]? = if off + k ≤ j ∧ j < off + k + c.length then c[j - (off + k)]? else cs[j]?
  | [], k, cs, h => ⟨rfl, fun j => by rw [if_neg (by simp)]; rfl⟩
  | v :: c, k, cs, h => by
    obtain ⟨h1, h2⟩ := fold_set off c (k + 1) (cs.setIfInBounds (off + k) v) (by simp at h ⊢; omega)
    rw [List.zipIdx_cons, List.foldl_cons]
    refine ⟨by rw [h1]; simp, fun j => ?_⟩
    rw [h2, Array.getElem?_setIfInBounds]
    simp only [List.length_cons] at h ⊢
    by_cases e : off + k = j
    · subst e
      rw [if_neg (by omega), if_pos rfl, if_pos (by omega), if_pos (by omega), Nat.sub_self]
      rfl
    · by_cases e2 : off + (k + 1) ≤ j ∧ j < off + (k + 1) + c.length
      · rw [if_pos e2, if_pos (by omega), show j - (off + k) = (j - (off + (k + 1))) + 1 by omega]
        rfl
      · rw [if_neg e2, if_neg e, if_neg (by omega)]

/-- The parts of a literal laid in, here and in the model. -/
theorem fillL_s {L : Loc} {f : Fr} : ∀ (ps : List (Nat × Nat × Opd)) (z : List Value) (k : List Value → R), fillL L f ps z k = some res →
    ∃ l, k l = some res ∧ l.length = z.length ∧ ∀ (r : Ren) (n : Nat) (a : Act) (qs : List (Nat × Operand)) (place : Nat → Option (Nat × Nat)),
      (∀ x ∈ z, wf0 n r x) → qs.length = ps.length →
      (∀ (j : Nat) (p : Nat × Nat × Opd) (q : Nat × Operand), ps[j]? = some p → qs[j]? = some q → place q.1 = some (p.1, p.2.1) ∧ ∀ v, EvV p.2.2 L f v → wf n r v ∧ a.eval q.2 = ren r v) →
      (∀ x ∈ l, wf0 n r x) ∧ Instr.fill place (z.map (ren0 r)).toArray (qs.map fun q => (q.1, a.eval q.2)) = some (l.map (ren0 r)).toArray
  | [], z, k, h => ⟨z, h, rfl, fun r n a qs place hz hl _ => by
      have : qs = [] := by cases qs <;> simp_all
      subst this
      exact ⟨hz, rfl⟩⟩
  | (off, m, x) :: ps, z, k, h => by
    obtain ⟨v, h1, h2⟩ := ev_EvV (show ev x L f _ = some res from h)
    -- the cells of v: known once it is well formed; here by its form
    have hcell : ∃ c, (match Nat.beq c.length m, Nat.ble (off + m) z.length with | true, true => fillL L f ps (setL z off c) k | _, _ => none) = some res ∧
        ∀ n r, wf n r v → (∀ y ∈ c, wf0 n r y) ∧ (ren r v).cells.toList = c.map (ren0 r) := by
      have : ∃ c, (match Nat.beq c.length m, Nat.ble (off + m) z.length with | true, true => fillL L f ps (setL z off c) k | _, _ => none) = some res ∧ (cellsK v (fun c => some (Value.agg ⟨c⟩, Tr.e, 0)) = some (Value.agg ⟨c⟩, Tr.e, 0)) := by
        cases v with
        | agg cs => obtain ⟨cs⟩ := cs; exact ⟨cs, h2, rfl⟩
        | tuple vs => cases h2
        | _ => exact ⟨_, h2, rfl⟩
      obtain ⟨c, g1, g2⟩ := this
      refine ⟨c, g1, fun n r hw => ?_⟩
      obtain ⟨c', e1, e2, e3⟩ := cellsK_some g2 hw
      have e4 : c' = c := by
        have := Option.some.inj e1
        simp only [Prod.mk.injEq, Value.agg.injEq, and_true] at this
        exact congrArg Array.toList this
      subst e4
      exact ⟨e2, e3⟩
    obtain ⟨c, h3, h4⟩ := hcell
    cases hb1 : Nat.beq c.length m with
    | false => rw [hb1] at h3; cases h3
    | true =>
      cases hb2 : Nat.ble (off + m) z.length with
      | false => rw [hb1, hb2] at h3; cases h3
      | true =>
        rw [hb1, hb2] at h3
        have e1 : c.length = m := Nat.eq_of_beq_eq_true hb1
        have e2 : off + m ≤ z.length := Nat.le_of_ble_eq_true hb2
        obtain ⟨l, g1, g2, g3⟩ := fillL_s ps (setL z off c) k h3
        refine ⟨l, g1, by rw [g2, setL_len], fun r n a qs place hz hl hp => ?_⟩
        cases qs with
        | nil => simp at hl
        | cons q qs =>
          obtain ⟨p1, p2⟩ := hp 0 _ _ rfl rfl
          obtain ⟨w1, w2⟩ := p2 v h1
          obtain ⟨c1, c2⟩ := h4 n r w1
          have hz' : ∀ y ∈ setL z off c, wf0 n r y := fun y hy => by
            obtain ⟨j, hj⟩ := List.getElem?_of_mem hy
            rw [setL_get z off c (by omega)] at hj
            split at hj
            · exact c1 y (List.mem_of_getElem? hj)
            · exact hz y (List.mem_of_getElem? hj)
          obtain ⟨i1, i2⟩ := g3 r n a qs place hz' (by simpa using hl) (fun j p q' hp' hq' => hp (j + 1) p q' (by simpa using hp') (by simpa using hq'))
          refine ⟨i1, ?_⟩
          rw [List.map_cons]
          have hcs : (a.eval q.2).cells.size = m := by
            rw [w2, ← Array.length_toList, c2, List.length_map, e1]
          have hsz : ¬ ((a.eval q.2).cells.size ≠ m ∨ off + (a.eval q.2).cells.size > (z.map (ren0 r)).toArray.size) := by
            rw [hcs]; simp; omega
          have hfold : ((a.eval q.2).cells.zipIdx.foldl (fun cs (p : Value × Nat) => cs.setIfInBounds (off + p.2) p.1) (z.map (ren0 r)).toArray) = ((setL z off c).map (ren0 r)).toArray := by
            have e3 : (a.eval q.2).cells = (c.map (ren0 r)).toArray := Array.ext' (by rw [w2]; simpa using c2)
            rw [e3]
            obtain ⟨s1, s2⟩ := fold_set off (c.map (ren0 r)) 0 (z.map (ren0 r)).toArray (by simp; omega)
            rw [← Array.foldl_toList]
            rw [show ((c.map (ren0 r)).toArray.zipIdx).toList = (c.map (ren0 r)).zipIdx 0 by simp]
            refine Array.ext' (List.ext_getElem? fun j => ?_)
            rw [Array.getElem?_toList, s2]
            simp only [List.length_map, Nat.add_zero, List.getElem?_toArray, List.getElem?_map, setL_get z off c (by omega)]
            split <;> rfl
          show (match place q.1 with | none => none | some (off', size) => _) = _
          rw [p1]
          simp only
          rw [if_neg (by simpa using hsz)]
          rw [show ((a.eval q.2).cells.zipIdx.foldl (fun cs x => match x with | (c, j) => cs.setIfInBounds (off + j) c) (z.map (ren0 r)).toArray) = ((setL z off c).map (ren0 r)).toArray from hfold]
          exact i2
end
end Go.Proofs.YtccbdaffjkdpgaaGreatDoor.Vw
namespace Go.Proofs.YtccbdaffjkdpgaaGreatDoor.Vw

section
variable [Val] {P : Program} {ty : Ty} {live : List Nat} {cx : Cx} {len : Nat} {res : Value × H × Nat}

omit [Val] in
theorem optM_some {α β : Type} {f : α → Option β} : ∀ {l : List α} {r : List β}, optM f l = some r → r.length = l.length ∧ (∀ (j : Nat) (a : α), l[j]? = some a → ∃ b, r[j]? = some b ∧ f a = some b) ∧ ∀ (j : Nat) (b : β), r[j]? = some b → ∃ a, l[j]? = some a ∧ f a = some b
  | [], r, h => by
    cases h
    exact ⟨rfl, fun j a h => by simp at h, fun j a h => by simp at h⟩
  | a :: l, r, h => by
    unfold optM at h
    cases ha : f a with
    | none => rw [ha] at h; cases h
    | some b =>
      rw [ha] at h
      cases hl : optM f l with
      | none => simp only [hl] at h; cases h
      | some q =>
        simp only [hl] at h
        cases h
        obtain ⟨h1, h2, h3⟩ := optM_some hl
        refine ⟨by simp [h1], fun j x hj => ?_, fun j x hj => ?_⟩
        · cases j with
          | zero => simp at hj; subst hj; exact ⟨b, rfl, ha⟩
          | succ j => exact h2 j x (by simpa using hj)
        · cases j with
          | zero => simp at hj; subst hj; exact ⟨a, rfl, ha⟩
          | succ j => exact h3 j x (by simpa using hj)

omit [Val] in
theorem mapM_get {α β : Type} {f : α → Option β} : ∀ (l : List α) (r : List β), r.length = l.length → (∀ (i : Nat) (x : α), l[i]? = some x → f x = r[i]?) → l.mapM f = some r
  | [], r, h, _ => by
    have : r = [] := by cases r <;> simp_all
    subst this
    rfl
  | a :: l, [], h, _ => by simp at h
  | a :: l, b :: r, h, hx => by
    have h0 : f a = some b := hx 0 a rfl
    have ih := mapM_get l r (by simpa using h) (fun i x hi => hx (i + 1) x (by simpa using hi))
    rw [List.mapM_cons, h0, ih]
    rfl
theorem tzero_ok (ht : TyOk P ty) {t : TypeId} {z : List Value} (h : tzero ty t = some z) :
    ∃ i zv, P.info? t = some i ∧ i.zero = some zv ∧ zv.cells.toList = z ∧ (∀ x ∈ z, constOk x = true) ∧ (∀ cs, zv = .agg cs → cs.toList = z) ∧ ((∀ cs, zv ≠ .agg cs) → z = [zv]) := by
  unfold tzero at h
  cases hi : info? ty t with
  | none => rw [hi] at h; cases h
  | some i =>
    rw [hi] at h
    cases hz : i.zero with
    | none => simp only [hz] at h; cases h
    | some zv =>
      simp only [hz] at h
      refine ⟨i, zv, ht.info t i hi, hz, ?_⟩
      split at h
      · rename_i cs
        split at h
        · rename_i hall
          cases h
          exact ⟨rfl, fun x hx => List.all_eq_true.1 hall x hx, fun cs' e => by cases e; rfl, fun hno => absurd rfl (hno _)⟩
        · cases h
      · rename_i hno
        split at h
        · rename_i hc
          cases h
          refine ⟨?_, fun x hx => by rw [List.mem_singleton.1 hx]; exact hc, fun cs e => absurd e (hno cs), fun _ => rfl⟩
          cases zv <;> first | rfl | exact absurd rfl (hno _)
        · cases h
theorem zero_map {z : List Value} (h : ∀ x ∈ z, constOk x = true) (r : Ren) : z.map (ren0 r) = z := by
  rw [List.map_congr_left (g := id) fun x hx => (constOk_wf (h x hx) 0 r).2.2]
  simp
theorem zero_wf {z : List Value} (h : ∀ x ∈ z, constOk x = true) (n : Nat) (r : Ren) : ∀ x ∈ z, wf0 n r x := fun x hx => (constOk_wf (h x hx) n r).1

theorem agg_s {L : List Value} {n : Nat} {r : Ren} (h : ∀ x ∈ L, wf0 n r x) : wf n r (.agg ⟨L⟩) ∧ ren r (.agg ⟨L⟩) = .agg (L.map (ren0 r)).toArray := ⟨h, by simp [ren, ren1]⟩

theorem build_s (ht : TyOk P ty) {t : TypeId} {ps : Array (Nat × Operand)} {z : List Value} {qs : List (Nat × Nat × Opd)} (hz : tzero ty t = some z) (hp : partsOf ty live cx len t ps.toList = some qs) :
    PuS P live cx len (.build t ps) (buildP z qs) := fun L f k res h => by
  obtain ⟨l, h1, h2, h3⟩ := fillL_s qs z _ h
  refine ⟨_, h1, fun r n a he => ?_⟩
  obtain ⟨it, zv, hi, hzv, hcells, hconst, _⟩ := tzero_ok ht hz
  have key : (∀ x ∈ l, wf0 n r x) ∧ P.built t (ps.toList.map fun q => (q.1, a.eval q.2)) = some (l.map (ren0 r)).toArray := by
    unfold partsOf at hp
    cases hd : und ty t with
    | none => rw [hd] at hp; cases hp
    | some d =>
      have hu := und_ok ht hd
      rw [hd] at hp
      have hzc : zv.cells = (z.map (ren0 r)).toArray := by rw [zero_map hconst]; exact Array.ext' (by simpa using hcells)
      cases d <;> try (cases hp; done)
      case array m e =>
        simp only at hp
        cases hm : tsize ty e with
        | none => rw [hm] at hp; cases hp
        | some m =>
          rw [hm] at hp
          obtain ⟨ie, hie, hsz, _⟩ := tsize_ok ht hm
          obtain ⟨p1, p2, p3⟩ := optM_some hp
          obtain ⟨g1, g2⟩ := h3 r n a ps.toList (fun i => some (i * ie.size, ie.size)) (zero_wf hconst n r) p1.symm (fun j p q hj hq => by
            obtain ⟨q', e1, e2⟩ := p3 j p hj
            rw [hq] at e1
            cases e1
            unfold pelem at e2
            cases hc : copd live cx len q.2 with
            | none => rw [hc] at e2; cases e2
            | some x =>
              rw [hc] at e2
              cases e2
              exact ⟨by rw [hsz], fun v hv => copd_eval hc hv he⟩)
          refine ⟨g1, ?_⟩
          unfold Program.built
          simp only [hi, hu, hzv, hie, hzc]
          exact g2
      case struct fs =>
        simp only at hp
        cases hpl : optM (fplace ty) fs.toList with
        | none => rw [hpl] at hp; cases hp
        | some places =>
          rw [hpl] at hp
          obtain ⟨p1, p2, p3⟩ := optM_some hp
          have hplaces : fs.toList.mapM (fun f => (P.info? f.type).map fun i => (f.offset, i.size)) = some places := by
            obtain ⟨q1, q2, q3⟩ := optM_some hpl
            refine mapM_get fs.toList places q1 (fun i x hx => ?_)
            obtain ⟨b, e1, e2⟩ := q2 i x hx
            rw [e1]
            unfold fplace at e2
            cases hs : tsize ty x.type with
            | none => rw [hs] at e2; cases e2
            | some m =>
              rw [hs] at e2
              cases e2
              obtain ⟨i', hi', hs', _⟩ := tsize_ok ht hs
              simp [hi', hs']
          obtain ⟨g1, g2⟩ := h3 r n a ps.toList (fun x => places.toArray[x]?) (zero_wf hconst n r) p1.symm (fun j p q hj hq => by
            obtain ⟨q', e1, e2⟩ := p3 j p hj
            rw [hq] at e1
            cases e1
            unfold pfield at e2
            cases hc : places[q.1]? with
            | none => rw [hc] at e2; cases e2
            | some pl =>
              rw [hc] at e2
              simp only at e2
              cases hx : copd live cx len q.2 with
              | none => rw [hx] at e2; cases e2
              | some x =>
                rw [hx] at e2
                cases e2
                exact ⟨by simp [hc], fun v hv => copd_eval hx hv he⟩)
          refine ⟨g1, ?_⟩
          unfold Program.built
          simp only [hi, hu, hzv, hplaces, hzc]
          exact g2
  obtain ⟨w1, w2⟩ := agg_s key.1
  refine ⟨w1, fun op ho w => ?_⟩
  simp only [execOp, ho]
  refine run_v ?_
  rw [w2]
  exact run_build w t _ _ (by simpa using key.2)

/-! parts of a value -/
omit [Val] in
theorem dropN_eq : ∀ (n : Nat) (l : List Value), dropN n l = l.drop n
  | 0, l => by unfold dropN; rfl
  | n + 1, [] => by unfold dropN; rfl
  | n + 1, a :: l => by unfold dropN; simpa using dropN_eq n l
omit [Val] in
theorem takeN_some : ∀ (n : Nat) (l r : List Value), takeN n l = some r → r = l.take n ∧ n ≤ l.length
  | 0, l, r, h => by unfold takeN at h; cases h; exact ⟨rfl, Nat.zero_le _⟩
  | n + 1, [], r, h => by unfold takeN at h; cases h
  | n + 1, a :: l, r, h => by
    unfold takeN at h
    cases hq : takeN n l with
    | none => simp only [hq] at h; cases h
    | some q =>
      simp only [hq] at h
      cases h
      obtain ⟨h1, h2⟩ := takeN_some n l q hq
      exact ⟨by rw [h1]; rfl, by simp; omega⟩
omit [Val] in
theorem mkV_some {agg : Bool} {l : List Value} {k : Value → R} (h : mkV agg l k = some res) : ∃ v, k v = some res ∧ ((agg = true ∧ v = .agg ⟨l⟩) ∨ (agg = false ∧ l = [v])) := by
  cases agg with
  | true => exact ⟨_, h, .inl ⟨rfl, rfl⟩⟩
  | false =>
    cases l with
    | nil => cases h
    | cons v l => cases l with
      | nil => exact ⟨v, h, .inr ⟨rfl, rfl⟩⟩
      | cons _ _ => cases h
/-- A part of a struct or an array. -/
theorem part_s (ht : TyOk P ty) {t : TypeId} {ag : Bool} {size off : Nat} {cs l : List Value} {v : Value} {n : Nat} {r : Ren} (hag : tagg ty t = some ag) (hs : tsize ty t = some size)
    (hl : takeN size (dropN off cs) = some l) (hv : (ag = true ∧ v = .agg ⟨l⟩) ∨ (ag = false ∧ l = [v])) (hw : ∀ x ∈ cs, wf0 n r x) (w : World) :
    wf n r v ∧ (part t (cs.map (ren0 r)).toArray off).run P w = .ok (ren r v) w := by
  obtain ⟨h1, h2⟩ := takeN_some _ _ _ hl
  rw [dropN_eq] at h1 h2
  have hin : ∀ x ∈ l, wf0 n r x := fun x hx => hw x (by rw [h1] at hx; exact List.mem_of_mem_drop (List.mem_of_mem_take hx))
  unfold part
  rcases hv with ⟨rfl, rfl⟩ | ⟨rfl, hv⟩
  · obtain ⟨w1, w2⟩ := agg_s hin
    refine ⟨w1, ?_⟩
    simp only [bind, Sem.run_bind', run_agg ht hag, Result.andThen_ok, if_true, run_size ht hs]
    rw [w2, h1]
    show Result.ok (Value.agg ((cs.map (ren0 r)).toArray.extract off (off + size))) w = _
    congr 2
    rw [List.extract_toArray, List.extract_eq_take_drop, List.map_take, List.map_drop]
    congr 2
    omega
  · have hv1 : wf0 n r v := hin v (by rw [hv]; simp)
    refine ⟨wf_of_wf0 hv1, ?_⟩
    simp only [bind, Sem.run_bind', run_agg ht hag, Result.andThen_ok, Bool.false_eq_true, if_false]
    have hc : cs[off]? = some v := by
      have : (List.take size (List.drop off cs))[0]? = some v := by rw [← h1, hv]; rfl
      rw [List.getElem?_take] at this
      split at this
      · simpa using this
      · cases this
    have hc' : (cs.map (ren0 r)).toArray[off]? = some (ren0 r v) := by simp [hc]
    rw [hc', ren_of_wf0 hv1]
    rfl

theorem agg_eval {cs : List Value} {r : Ren} : ren r (.agg ⟨cs⟩) = .agg (cs.map (ren0 r)).toArray := by simp [ren, ren1]
omit [Val] in
theorem optK {α : Type} {o : Option α} {k : α → R} (h : @Option.rec α (fun _ => R) none k o = some res) : ∃ x, o = some x ∧ k x = some res := by
  cases o with
  | none => cases h
  | some x => exact ⟨x, rfl, h⟩

theorem fld_s (ht : TyOk P ty) {t : TypeId} {x : Operand} {x' : Opd} {i : Nat} {fs : Array Field} {fl : Field} {ag : Bool} {size : Nat} (hx : copd live cx len x = some x') (hd : und ty t = some (.struct fs)) (hf : fs.toList[i]? = some fl)
    (hag : tagg ty fl.type = some ag) (hs : tsize ty fl.type = some size) : PuS P live cx len (.field t x i) (fldP ag fl.offset size x') := fun L f k res h => by
  obtain ⟨v, h1, h2⟩ := ev_EvV h
  obtain ⟨cs, rfl, h3⟩ := asAgg_some h2
  obtain ⟨l, h4, h5⟩ := optK h3
  obtain ⟨v, h6, h7⟩ := mkV_some h5
  refine ⟨v, h6, fun r n a he => ?_⟩
  obtain ⟨w1, e1⟩ := copd_eval hx h1 he
  have key := fun w => part_s (P := P) ht hag hs h4 h7 w1 w
  refine ⟨(key default).1, fun op ho w => ?_⟩
  simp only [execOp, ho, e1, agg_eval]
  refine run_v ?_
  unfold Instr.field
  have hf' : fs[i]? = some fl := by rw [← Array.getElem?_toList]; exact hf
  simp only [bind, Sem.run_bind', run_und ht hd, Result.andThen_ok, hf']
  exact (key w).2

theorem idxArr_s (ht : TyOk P ty) {t e : TypeId} {x i : Operand} {x' i' : Opd} {m : Nat} {ag : Bool} {size : Nat} (hx : copd live cx len x = some x') (hi : copd live cx len i = some i') (hd : und ty t = some (.array m e))
    (hag : tagg ty e = some ag) (hs : tsize ty e = some size) : PuS P live cx len (.index t x i) (idxArrP ag m size x' i') := fun L f k res h => by
  obtain ⟨v, h1, h2⟩ := ev_EvV h
  obtain ⟨cs, rfl, h3⟩ := asAgg_some h2
  obtain ⟨vi, g1, g2⟩ := ev_EvV h3
  obtain ⟨kd, q, rfl, hqm, g3⟩ := asNat_some g2
  obtain ⟨g4, g5⟩ := boolK' g3
  have hlt : q < m := Nat.le_of_ble_eq_true g4
  obtain ⟨l, h4, h5⟩ := optK g5
  obtain ⟨v, h6, h7⟩ := mkV_some h5
  refine ⟨v, h6, fun r n a he => ?_⟩
  obtain ⟨w1, e1⟩ := copd_eval hx h1 he
  obtain ⟨_, e2⟩ := copd_eval hi g1 he
  have key := fun w => part_s (P := P) ht hag hs h4 h7 w1 w
  refine ⟨(key default).1, fun op ho w => ?_⟩
  simp only [execOp, ho, e1, e2, agg_eval]
  rw [ren_nat hqm]
  refine run_v ?_
  unfold Instr.index
  have hb : (0 : Int) ≤ Int.ofNat q ∧ Int.ofNat q < (m : Int) := ⟨Int.natCast_nonneg q, by simpa using hlt⟩
  simp only [bind, Sem.run_bind', run_und ht hd, Result.andThen_ok, asIntOf, pure, Sem.run, hb, and_self, if_true, run_size ht hs]
  exact (key w).2

theorem idxStr_s (ht : TyOk P ty) {t : TypeId} {x i : Operand} {x' i' : Opd} (hx : copd live cx len x = some x') (hi : copd live cx len i = some i') (hd : und ty t = some .string) :
    PuS P live cx len (.index t x i) (idxStrP x' i') := fun L f k res h => by
  obtain ⟨v, h1, h2⟩ := ev_EvV h
  obtain ⟨s, rfl, h3⟩ := asStr_some h2
  obtain ⟨vi, g1, g2⟩ := ev_EvV h3
  obtain ⟨kd, q, rfl, hqm, g3⟩ := asNat_some g2
  cases hb : s.data.toList[q]? with
  | none => rw [hb] at g3; cases g3
  | some b =>
    rw [hb] at g3
    refine ⟨_, g3, fun r n a he => ⟨trivial, fun op ho w => ?_⟩⟩
    obtain ⟨_, e1⟩ := copd_eval hx h1 he
    obtain ⟨_, e2⟩ := copd_eval hi g1 he
    simp only [execOp, ho, e1, e2, show ren r (.string s) = .string s from rfl]
    rw [ren_nat hqm, show ren r (.int .u8 b.toNat) = .int .u8 b.toNat from congrArg (Value.int .u8) (Plain.nat (m := b.toNat) (by have := b.toNat_lt; omega)).vI]
    refine run_v ?_
    unfold Instr.index
    have hs : s[q]? = some b := by
      have : s.data[q]? = some b := by rw [← Array.getElem?_toList]; exact hb
      obtain ⟨hq, hv⟩ := Array.getElem?_eq_some_iff.1 this
      rw [getElem?_pos s q hq]
      exact congrArg some hv
    have h0 : (0 : Int) ≤ Int.ofNat q := Int.natCast_nonneg q
    simp only [bind, Sem.run_bind', run_und ht hd, Result.andThen_ok, asIntOf, pure, Sem.run, h0, if_true, show (Int.ofNat q).toNat = q from rfl, hs]

theorem ext_s {x : Operand} {x' : Opd} {i : Nat} (hx : copd live cx len x = some x') : PuS P live cx len (.extract x i) (extP x' i) := fun L f k res h => by
  obtain ⟨v, h1, h2⟩ := ev_EvV h
  cases v with
  | tuple vs =>
    obtain ⟨vs⟩ := vs
    have h3 : nthK vs i k none = some res := h2
    rw [nthK_eq] at h3
    cases hv : vs[i]? with
    | none => rw [hv] at h3; cases h3
    | some v =>
      rw [hv] at h3
      refine ⟨v, h3, fun r n a he => ?_⟩
      obtain ⟨w1, e1⟩ := copd_eval hx h1 he
      have hv1 : wf1 n r v := w1 v (List.mem_of_getElem? hv)
      have e2 : ren r v = ren1 r v := by cases v <;> first | rfl | exact hv1.elim
      have hwf : wf n r v := by cases v <;> first | exact hv1 | exact hv1.elim
      refine ⟨hwf, fun op ho w => ?_⟩
      simp only [execOp, ho, e1]
      refine run_v ?_
      have e3 : ren r (.tuple ⟨vs⟩) = .tuple (vs.map (ren1 r)).toArray := by simp [ren]
      have e4 : (vs.map (ren1 r)).toArray[i]? = some (ren1 r v) := by simp [hv]
      rw [e3, e2]
      simp only [Instr.extract, e4]
      rfl
  | _ => cases h2
end
end Go.Proofs.YtccbdaffjkdpgaaGreatDoor.Vw
namespace Go.Proofs.YtccbdaffjkdpgaaGreatDoor.Vw

section
variable [Val] {P : Program} {ty : Ty} {live : List Nat} {cx : Cx} {len : Nat} {res : Value × H × Nat}

theorem ptr_eval {r : Ren} {a : Addr} : ren r (.pointer (some a)) = .pointer (some (ra r a)) := rfl
theorem ptr_add {n : Nat} {r : Ren} {a : Addr} (h : wf n r (.pointer (some a))) (m : Nat) : wf n r (.pointer (some (a.add m))) ∧ ren r (.pointer (some (a.add m))) = .pointer (some ((ra r a).add m)) :=
  ⟨⟨by rw [add_block]; exact h.1, add_none h.2 m⟩, by rw [ptr_eval, add_ra]⟩

theorem fad_s (ht : TyOk P ty) {t : TypeId} {x : Operand} {x' : Opd} {i : Nat} {fs : Array Field} {fl : Field} {size : Nat} (hx : copd live cx len x = some x') (hd : und ty t = some (.struct fs)) (hf : fs.toList[i]? = some fl)
    (hs : tsize ty fl.type = some (size + 1)) : PuS P live cx len (.fieldAddr t x i) (fadP fl.offset x') := fun L f k res h => by
  obtain ⟨v, h1, h2⟩ := ev_EvV h
  obtain ⟨p, rfl, h3⟩ := asPtr_some h2
  have h4 := addA_some h3
  refine ⟨_, h4, fun r n a he => ?_⟩
  obtain ⟨w1, e1⟩ := copd_eval hx h1 he
  obtain ⟨w2, e2⟩ := ptr_add w1 fl.offset
  refine ⟨w2, fun op ho w => ?_⟩
  simp only [execOp, ho, e1, e2, ptr_eval]
  refine run_v ?_
  have hf' : fs[i]? = some fl := by rw [← Array.getElem?_toList]; exact hf
  have hne : ¬ (size + 1 = 0) := by omega
  unfold Instr.fieldAt
  simp only [bind, Sem.run_bind', run_und ht hd, Result.andThen_ok, hf', Instr.sureAddr, pure, Sem.run, fieldPlace, run_size ht hs, hne, if_false]

theorem iadArr_s (ht : TyOk P ty) {t e : TypeId} {x i : Operand} {x' i' : Opd} {m size : Nat} (hx : copd live cx len x = some x') (hi : copd live cx len i = some i') (hd : und ty t = some (.array m e)) (hs : tsize ty e = some size) :
    PuS P live cx len (.indexAddr t x i) (iadArrP m size x' i') := fun L f k res h => by
  obtain ⟨v, h1, h2⟩ := ev_EvV h
  obtain ⟨p, rfl, h3⟩ := asPtr_some h2
  obtain ⟨vi, g1, g2⟩ := ev_EvV h3
  obtain ⟨kd, q, rfl, hqm, g3⟩ := asNat_some g2
  obtain ⟨g4, g5⟩ := boolK' g3
  have hlt : q < m := Nat.le_of_ble_eq_true g4
  have h4 := addA_some g5
  refine ⟨_, h4, fun r n a he => ?_⟩
  obtain ⟨w1, e1⟩ := copd_eval hx h1 he
  obtain ⟨_, e2⟩ := copd_eval hi g1 he
  obtain ⟨w2, _⟩ := ptr_add w1 (q * size)
  refine ⟨w2, fun op ho w => ?_⟩
  have hb : (0 : Int) ≤ Int.ofNat q ∧ Int.ofNat q < (m : Int) := ⟨Int.natCast_nonneg q, by simpa using hlt⟩
  simp only [execOp, ho, e1, e2, ptr_eval]
  rw [ren_nat hqm]
  refine run_v ?_
  rw [show Nat.mul q size = q * size from rfl, ← add_ra]
  unfold Instr.indexAt
  simp only [bind, Sem.run_bind', run_und ht hd, Result.andThen_ok, asIntOf, Instr.sureAddr, pure, Sem.run, hb, and_self, if_true, run_size ht hs]
  rfl

omit [Val] in
theorem sl_none {n : Nat} {r : Ren} {a : Addr} {l c : Nat} (h : wf n r (.slice (some a) l c)) (hl : l ≠ 0) : a.spot = none := by
  by_cases e : a.spot = none
  · exact e
  · exact absurd (h.2.2.1 e) hl
theorem sl_eval {r : Ren} {a : Addr} {l c : Nat} (h : a.spot = none) : ren r (.slice (some a) l c) = .slice (some (ra r a)) l (if c < OPEN then c else r.cap a.block - (c - OPEN)) := by
  show rsl r a l c = _
  unfold rsl
  split
  · rw [h]
    rfl
  · rw [h]

theorem iadSl_s (ht : TyOk P ty) {t e : TypeId} {x i : Operand} {x' i' : Opd} {size : Nat} (hx : copd live cx len x = some x') (hi : copd live cx len i = some i') (hd : und ty t = some (.slice e)) (hs : tsize ty e = some size) :
    PuS P live cx len (.indexAddr t x i) (iadSlP size x' i') := fun L f k res h => by
  obtain ⟨v, h1, h2⟩ := ev_EvV h
  obtain ⟨p, l, c, rfl, h3⟩ := asSl_some h2
  obtain ⟨p, rfl, h3⟩ := optK h3
  obtain ⟨vi, g1, g2⟩ := ev_EvV h3
  obtain ⟨kd, q, rfl, hqm, g3⟩ := asNat_some g2
  obtain ⟨g4, g5⟩ := boolK' g3
  have hlt : q < l := Nat.le_of_ble_eq_true g4
  have h4 := addA_some g5
  refine ⟨_, h4, fun r n a he => ?_⟩
  obtain ⟨w1, e1⟩ := copd_eval hx h1 he
  obtain ⟨_, e2⟩ := copd_eval hi g1 he
  have hsp := sl_none w1 (by omega)
  have w1' : wf n r (.pointer (some p)) := ⟨w1.1, hsp⟩
  obtain ⟨w2, e3⟩ := ptr_add w1' (q * size)
  refine ⟨w2, fun op ho w => ?_⟩
  have hb : (0 : Int) ≤ Int.ofNat q ∧ Int.ofNat q < (l : Int) := ⟨Int.natCast_nonneg q, by simpa using hlt⟩
  simp only [execOp, ho, e1, e2]
  rw [sl_eval hsp, ren_nat hqm]
  refine run_v ?_
  rw [show Nat.mul q size = q * size from rfl, e3]
  unfold Instr.indexAt
  simp only [bind, Sem.run_bind', run_und ht hd, Result.andThen_ok, asIntOf, pure, Sem.run, hb, and_self, if_true, run_size ht hs]
  rfl

/-! lengths -/
theorem sl_len {r : Ren} {a : Option Addr} {l c : Nat} : ∃ a' c', ren r (.slice a l c) = .slice a' l c' := by
  cases a with
  | none => exact ⟨_, _, rfl⟩
  | some a =>
    show ∃ a' c', rsl r a l c = .slice a' l c'
    unfold rsl
    split
    · exact ⟨_, _, rfl⟩
    · split <;> exact ⟨_, _, rfl⟩
omit [Val] in
theorem natV_some {m : Nat} {k : Value → R} (h : natV m k = some res) : m ≤ MAX ∧ k (.int .i64 (.ofNat m)) = some res := by
  obtain ⟨h1, h2⟩ := boolK' h
  exact ⟨Nat.le_of_ble_eq_true h1, h2⟩
theorem len_s (ht : TyOk P ty) {c : Go.Call} {t : TypeId} {x : Operand} {x' : Opd} (hc : c.callee = .builtin .len) (ht1 : c.argTypes.toList = [t]) (ha : c.args.toList = [x]) (hx : copd live cx len x = some x') :
    (∀ e, und ty t = some (.slice e) → PuS P live cx len (.call c) (lenSlP x')) ∧ (und ty t = some .string → PuS P live cx len (.call c) (lenStrP x')) ∧ (∀ m e, und ty t = some (.array m e) → PuS P live cx len (.call c) (lenArrP m)) := by
  have hargs : c.args = #[x] := Array.ext' (by simpa using ha)
  have htys : c.argTypes = #[t] := Array.ext' (by simpa using ht1)
  refine ⟨fun e hd => fun L f k res h => ?_, fun hd => fun L f k res h => ?_, fun m e hd => fun L f k res h => ?_⟩
  · obtain ⟨v, h1, h2⟩ := ev_EvV h
    obtain ⟨p, l, cc, rfl, h3⟩ := asSl_some h2
    obtain ⟨hm, h3⟩ := natV_some h3
    refine ⟨_, h3, fun r n a he => ⟨trivial, fun op ho w => ?_⟩⟩
    obtain ⟨_, e1⟩ := copd_eval hx h1 he
    obtain ⟨a', c', e2⟩ := sl_len (r := r) (a := p) (l := l) (c := cc)
    rw [ren_nat hm]
    simp [execOp, ho, resolve, hc, hargs, htys, e1, e2, invoke, builtin, Builtin.len_, run_und ht hd, goInt]
  · obtain ⟨v, h1, h2⟩ := ev_EvV h
    obtain ⟨s, rfl, h3⟩ := asStr_some h2
    rw [forceN_eq] at h3
    obtain ⟨hm, h3⟩ := natV_some h3
    refine ⟨_, h3, fun r n a he => ⟨trivial, fun op ho w => ?_⟩⟩
    obtain ⟨_, e1⟩ := copd_eval hx h1 he
    have e2 : ren r (.string s) = .string s := rfl
    rw [ren_nat hm]
    simp [execOp, ho, resolve, hc, hargs, htys, e1, e2, invoke, builtin, Builtin.len_, run_und ht hd, goInt]
  · obtain ⟨hm, h⟩ := natV_some h
    refine ⟨_, h, fun r n a he => ⟨trivial, fun op ho w => ?_⟩⟩
    rw [ren_nat hm]
    simp [execOp, ho, resolve, hc, hargs, htys, invoke, builtin, Builtin.len_, run_und ht hd, goInt]

/-! functions, conversions, one operand -/
omit [Val] in
theorem evL_some {l : List Opd} {L : Loc} {f : Fr} : ∀ {k : List Value → R}, evL l L f k = some res → ∃ vs, vs.length = l.length ∧ (∀ (j : Nat) (o : Opd) (v : Value), l[j]? = some o → vs[j]? = some v → EvV o L f v) ∧ k vs = some res := by
  induction l with
  | nil => intro k h; exact ⟨[], rfl, fun j o v hj => by simp at hj, h⟩
  | cons o l ih =>
    intro k h
    obtain ⟨v, h1, h2⟩ := ev_EvV (show ev o L f (fun v => evL l L f fun r => k (v :: r)) = some res from h)
    obtain ⟨vs, h3, h4, h5⟩ := ih h2
    refine ⟨v :: vs, by simp [h3], fun j o' v' hj hv => ?_, h5⟩
    cases j with
    | zero => simp at hj hv; subst hj; subst hv; exact h1
    | succ j => exact h4 j o' v' (by simpa using hj) (by simpa using hv)
/-- Operands, one by one. -/
theorem evL_eval {xs : List Operand} {ys : List Opd} {vs : List Value} {L : Loc} {f : Fr} {n : Nat} {r : Ren} {a : Act} (hc : optM (copd live cx len) xs = some ys) (hl : vs.length = ys.length)
    (hv : ∀ (j : Nat) (o : Opd) (v : Value), ys[j]? = some o → vs[j]? = some v → EvV o L f v) (he : EnvR live cx len L f n r a) : (∀ v ∈ vs, wf n r v) ∧ xs.map a.eval = vs.map (ren r) := by
  obtain ⟨h1, h2, h3⟩ := optM_some hc
  have key : ∀ j v, vs[j]? = some v → wf n r v ∧ ∃ x, xs[j]? = some x ∧ a.eval x = ren r v := fun j v hj => by
    have hlt : j < ys.length := by rw [← hl]; exact (List.getElem?_eq_some_iff.1 hj).1
    obtain ⟨x, e1, e2⟩ := h3 j ys[j] (List.getElem?_eq_getElem hlt)
    obtain ⟨w1, w2⟩ := copd_eval e2 (hv j _ v (List.getElem?_eq_getElem hlt) hj) he
    exact ⟨w1, x, e1, w2⟩
  refine ⟨fun v hv' => ?_, ?_⟩
  · obtain ⟨j, hj⟩ := List.getElem?_of_mem hv'
    exact (key j v hj).1
  · refine List.ext_getElem? fun j => ?_
    rw [List.getElem?_map, List.getElem?_map]
    cases hj : vs[j]? with
    | none =>
      have : xs[j]? = none := by
        rw [List.getElem?_eq_none_iff] at hj ⊢
        omega
      rw [this]
      rfl
    | some v =>
      obtain ⟨_, x, e1, e2⟩ := key j v hj
      rw [e1]
      simp [e2]

/-- what a closure may hold: pointers and the like -/
def capOk (v : Value) : Bool := match v with
  | .pointer _ | .bool _ | .int _ _ | .string _ => true
  | _ => false

theorem conv_s (ht : TyOk P ty) {s d : TypeId} {x : Operand} {x' : Opd} {k1 k2 : IntKind} (hs : und ty s = some (.int k1)) (hd : und ty d = some (.int k2)) (hx : copd live cx len x = some x') :
    PuS P live cx len (.convert s d x) (convP ty.tb k2 x') := fun L f k res h => by
  obtain ⟨v, h1, h2⟩ := ev_EvV h
  obtain ⟨kd, m, rfl, h3⟩ := asInt_some h2
  have run : ∀ (r : Ren) (n : Nat) (a : Act), EnvR live cx len L f n r a → ∀ (op : Oper), op.op = .convert s d x → ∀ w, (execOp a.eval op).run P w = .ok (.value (.int k2 (k2.wrap (vI m)))) w := fun r n a he op ho w => by
    obtain ⟨_, e1⟩ := copd_eval hx h1 he
    simp only [execOp, ho, e1, ren_int]
    refine run_v ?_
    unfold convert
    simp only [bind, Sem.run_bind', run_und ht hs, run_und ht hd, Result.andThen_ok]
    rfl
  rcases plE_some h3 with ⟨hp, h4⟩ | h4
  · refine ⟨_, mkI_some h4, fun r n a he => ⟨trivial, fun op ho w => ?_⟩⟩
    rw [run r n a he op ho w, hp.vI, (int_plain k2 (wrap_plain k2 m)).2 r]
  · obtain ⟨w, hw, w1, rfl, _, w2⟩ := sym_some h4
    have hrow := ht.tab w hw
    refine ⟨w.v, w2, fun r n a he => ?_⟩
    obtain ⟨l1, l2, _⟩ := lit_ren hrow.lit n r
    refine ⟨wf_of_wf0 l1, fun op ho wd => ?_⟩
    rw [run r n a he op ho wd, l2, hrow.conv k2 w1]

theorem un_s {op : UnOp} {t : TypeId} {x : Operand} {x' : Opd} (hx : copd live cx len x = some x') : PuS P live cx len (.unOp op t x) (unP op x') := fun L f k res h => by
  obtain ⟨v, h1, h2⟩ := ev_EvV h
  cases v with
  | int kd m =>
    obtain ⟨hp, h2⟩ := plI_some h2
    obtain ⟨v, h3, h4⟩ := semV_some h2
    obtain ⟨kd', m', rfl, h5⟩ := asInt_some h4
    rw [forceI_eq] at h5
    obtain ⟨hp', h5⟩ := plI_some h5
    refine ⟨_, h5, fun r n a he => ⟨trivial, fun o ho w => ?_⟩⟩
    obtain ⟨_, e1⟩ := copd_eval hx h1 he
    simp only [execOp, ho, e1, ren_int, hp.vI, hp'.vI]
    refine run_v ?_
    rw [h3]
    rfl
  | bool b =>
    obtain ⟨v, h3, h4⟩ := semV_some (show semV (Op.unary op (.bool b)) k = some res from h2)
    have hv : v = .bool (!b) := by
      cases op <;> first | (cases h3; rfl) | (simp [Op.unary, stuck] at h3)
    subst hv
    refine ⟨_, h4, fun r n a he => ⟨trivial, fun o ho w => ?_⟩⟩
    obtain ⟨_, e1⟩ := copd_eval hx h1 he
    simp only [execOp, ho, e1, show ren r (.bool b) = .bool b from rfl]
    refine run_v ?_
    rw [h3]
    rfl
  | _ => cases h2
end
end Go.Proofs.YtccbdaffjkdpgaaGreatDoor.Vw
namespace Go.Proofs.YtccbdaffjkdpgaaGreatDoor.Vw

section
variable [Val] {P : Program} {ty : Ty} {live : List Nat} {cx : Cx} {len : Nat} {res : Value × H × Nat}

theorem ptrs_wf {n : Nat} {r : Ren} : ∀ {l : List Value}, ptrs l = true → (∀ v ∈ l, wf n r v) → (∀ v ∈ l, wfP n r v) ∧ l.map (ren r) = l.map (renP r)
  | [], _, _ => ⟨fun v hv => by simp at hv, rfl⟩
  | v :: l, h, hw => by
    cases v with
    | pointer p =>
      obtain ⟨h1, h2⟩ := ptrs_wf (l := l) h (fun v hv => hw v (by simp [hv]))
      have h0 := hw (.pointer p) (by simp)
      refine ⟨fun v hv => ?_, ?_⟩
      · rcases List.mem_cons.1 hv with rfl | hv
        · exact h0
        · exact h1 v hv
      · rw [List.map_cons, List.map_cons, h2]
        rfl
    | _ => cases h
theorem mkf_s {g : FuncId} {first captured : Array Operand} {b : List Opd} (hf : first.toList = []) (hc : optM (copd live cx len) captured.toList = some b) :
    PuS P live cx len (.makeFunc (.func g) first captured) (mkfP g b) := fun L f k res h => by
  obtain ⟨vs, h1, h2, h3⟩ := evL_some h
  obtain ⟨h4, h5⟩ := boolK' h3
  refine ⟨_, h5, fun r n a he => ?_⟩
  obtain ⟨w1, w2⟩ := evL_eval hc h1 h2 he
  obtain ⟨w3, w4⟩ := ptrs_wf h4 w1
  have hfirst : first = #[] := Array.ext' (by simpa using hf)
  refine ⟨?_, fun op ho w => ?_⟩
  · show wf0 n r (.func (.func g) #[] ⟨vs⟩)
    exact ⟨by simp, w3⟩
  · have e : captured.map a.eval = (vs.map (renP r)).toArray := Array.ext' (by rw [Array.toList_map, w2, w4])
    simp only [execOp, ho, hfirst, e]
    refine run_v ?_
    have e2 : ren r (.func (.func g) #[] ⟨vs⟩) = .func (.func g) #[] (vs.map (renP r)).toArray := by
      show Value.func (.func g) (#[].map _) ((⟨vs⟩ : Array Value).map _) = _
      simp
    rw [e2]
    simp [Instr.makeFunc]

theorem sid_s (ht : TyOk P ty) {s d : TypeId} {x : Operand} {x' : Opd} (hs : und ty s = some .string) (hd : und ty d = some .string) (hx : copd live cx len x = some x') :
    PuS P live cx len (.convert s d x) (sidP x') := fun L f k res h => by
  obtain ⟨v, h1, h2⟩ := ev_EvV h
  obtain ⟨s', rfl, h3⟩ := asStr_some h2
  refine ⟨_, h3, fun r n a he => ⟨trivial, fun op ho w => ?_⟩⟩
  obtain ⟨_, e1⟩ := copd_eval hx h1 he
  simp only [execOp, ho, e1, show ren r (.string s') = .string s' from rfl]
  refine run_v ?_
  unfold convert
  simp only [bind, Sem.run_bind', run_und ht hs, run_und ht hd, Result.andThen_ok]
  rfl

theorem str_s {op : BinOp} {t u : TypeId} {x y : Operand} {x' y' : Opd} (hx : copd live cx len x = some x') (hy : copd live cx len y = some y') : PuS P live cx len (.binOp op t x y u) (strP op x' y') := fun L f k res h => by
  obtain ⟨v, h1, h2⟩ := ev_EvV h
  obtain ⟨v', h3, h4⟩ := ev_EvV h2
  obtain ⟨s, rfl, h5⟩ := asStr_some h4
  obtain ⟨s', rfl, h6⟩ := asStr_some h5
  obtain ⟨v, h7, h8⟩ := semV_some h6
  have hv : (∃ q, v = .string q) ∨ ∃ b, v = .bool b := by
    unfold Op.stringOp at h7
    cases op
    case add =>
      simp only at h7
      split at h7
      · simp [unsupported] at h7
      · cases h7; exact .inl ⟨_, rfl⟩
    all_goals first
      | (cases h7; exact .inr ⟨_, rfl⟩)
      | (simp [stuck] at h7)
  have hp : ∀ n r, wf n r v ∧ ren r v = v := by
    rcases hv with ⟨q, rfl⟩ | ⟨b, rfl⟩ <;> exact fun n r => ⟨trivial, rfl⟩
  refine ⟨v, h8, fun r n a he => ⟨(hp n r).1, fun o ho w => ?_⟩⟩
  obtain ⟨_, e1⟩ := copd_eval hx h1 he
  obtain ⟨_, e2⟩ := copd_eval hy h3 he
  simp only [execOp, ho, e1, e2, show ∀ s, ren r (.string s) = .string s from fun _ => rfl]
  refine run_v ?_
  have hg : (eqGuard op t x y (.string s) (.string s')).run P w = .ok () w := by
    unfold eqGuard
    cases op <;> rfl
  rw [(hp n r).2]
  simp only [bind, Sem.run_bind', hg, Result.andThen_ok]
  have e : Go.binOp op t (.string s) (.string s') = Op.stringOp op s s' := by cases op <;> rfl
  rw [e, h7]
  rfl

/-! comparisons -/
omit [Val] in
theorem eql_run {t : TypeId} {x y : Value} {b neg : Bool} {w : World} (hne : ∀ w, (Op.equal t x y).run P w = .ok b w) (hform : ∀ op, (op = BinOp.eql ∨ op = .neq) → Go.binOp op t x y = (if op = .eql then (do pure (.bool (← Op.equal t x y))) else do pure (.bool (!(← Op.equal t x y))))) :
    (Go.binOp (if neg then .neq else .eql) t x y).run P w = .ok (.bool (@Bool.rec (fun _ => Bool) b (not b) neg)) w := by
  cases neg with
  | false =>
    rw [show (if false = true then BinOp.neq else .eql) = .eql from rfl, hform .eql (.inl rfl)]
    simp [hne]
  | true =>
    rw [show (if true = true then BinOp.neq else .eql) = .neq from rfl, hform .neq (.inr rfl)]
    simp [hne]
omit [Val] in
theorem equal_unf (t : TypeId) (x y : Value) : Op.equal t x y = Op.equalIn (9999 + 1) t x y := rfl

omit [Val] in
theorem nilB_some {a b : Option Addr} {k : Bool → R} (h : nilB a b k = some res) : ∃ q, k q = some res ∧ ((a = none ∧ q = b.isNone) ∨ (a.isNone = false ∧ b = none ∧ q = false)) := by
  cases a with
  | none => exact ⟨_, h, .inl ⟨rfl, rfl⟩⟩
  | some a => cases b with
    | none => exact ⟨_, h, .inr ⟨rfl, rfl, rfl⟩⟩
    | some b => cases h
theorem ptr_nil (p : Option Addr) (r : Ren) : ∃ q, ren r (.pointer p) = .pointer q ∧ q.isNone = p.isNone := by cases p <;> exact ⟨_, rfl, rfl⟩
theorem sl_nil (p : Option Addr) (l c : Nat) (r : Ren) : ∃ q l' c', ren r (.slice p l c) = .slice q l' c' ∧ q.isNone = p.isNone := by
  cases p with
  | none => exact ⟨_, _, _, rfl, rfl⟩
  | some p =>
    show ∃ q l' c', rsl r p l c = .slice q l' c' ∧ _
    unfold rsl
    split
    · exact ⟨_, _, _, rfl, rfl⟩
    · split <;> exact ⟨_, _, _, rfl, rfl⟩
theorem eqP_s (ht : TyOk P ty) {c : EqC} {neg : Bool} {t u : TypeId} {x y : Operand} {x' y' : Opd} {d : TypeDesc} (hd : und ty t = some d)
    (hcd : match c with | .b => d = .bool | .p => ∃ e, d = .pointer e | .s => ∃ e, d = .slice e | .f => ∃ ps rs v, d = .func ps rs v)
    (hx : copd live cx len x = some x') (hy : copd live cx len y = some y') : PuS P live cx len (.binOp (if neg then .neq else .eql) t x y u) (eqP c neg x' y') := fun L f k res h => by
  obtain ⟨v, h1, h2⟩ := ev_EvV h
  obtain ⟨v', h3, h4⟩ := ev_EvV h2
  have key : ∃ b, k (.bool (@Bool.rec (fun _ => Bool) b (not b) neg)) = some res ∧ ∀ r n, wf n r v → wf n r v' →
      (∀ w, (Op.equal t (ren r v) (ren r v')).run P w = .ok b w) ∧ (∀ op, (op = BinOp.eql ∨ op = .neq) → Go.binOp op t (ren r v) (ren r v') = (if op = .eql then (do pure (.bool (← Op.equal t (ren r v) (ren r v')))) else do pure (.bool (!(← Op.equal t (ren r v) (ren r v')))))) ∧
      ∀ op w, (eqGuard op t x y (ren r v) (ren r v')).run P w = .ok () w := by
    cases c with
    | b =>
      simp only at hcd
      subst hcd
      cases v with
      | bool b1 => cases v' with
        | bool b2 =>
          refine ⟨@Bool.rec (fun _ => Bool) (not b2) b2 b1, h4, fun r n _ _ => ⟨fun w => ?_, fun op ho => ?_, fun op w => ?_⟩⟩
          · show (Op.equal t (.bool b1) (.bool b2)).run P w = _
            rw [equal_unf]
            generalize 9999 = dd
            simp only [Op.equalIn, bind, Sem.run_bind', run_und ht hd, Result.andThen_ok]
            cases b1 <;> cases b2 <;> rfl
          · show Go.binOp op t (.bool b1) (.bool b2) = _
            rcases ho with rfl | rfl <;> rfl
          · show (eqGuard op t x y (.bool b1) (.bool b2)).run P w = _
            unfold eqGuard
            cases op <;> rfl
        | _ => cases h4
      | _ => cases h4
    | p =>
      obtain ⟨e, rfl⟩ := hcd
      cases v with
      | pointer p1 => cases v' with
        | pointer p2 =>
          obtain ⟨b, hb1, hb2⟩ := nilB_some (show nilB p1 p2 (fun b => k (.bool (@Bool.rec (fun _ => Bool) b (not b) neg))) = some res from h4)
          refine ⟨b, hb1, fun r n _ _ => ?_⟩
          obtain ⟨q1, e1, e3⟩ := ptr_nil p1 r
          obtain ⟨q2, e2, e4⟩ := ptr_nil p2 r
          rw [e1, e2]
          refine ⟨fun w => ?_, fun op ho => ?_, fun op w => ?_⟩
          · rw [equal_unf]
            generalize 9999 = dd
            rcases hb2 with ⟨rfl, rfl⟩ | ⟨h5, rfl, rfl⟩
            · have : q1 = none := by cases q1 <;> simp_all
              subst this
              simp only [Op.equalIn, bind, Sem.run_bind', run_und ht hd, Result.andThen_ok, ← e4]
              rfl
            · have : q2 = none := by cases q2 <;> simp_all
              subst this
              obtain ⟨q, rfl⟩ : ∃ q, q1 = some q := by cases q1 <;> simp_all
              simp only [Op.equalIn, bind, Sem.run_bind', run_und ht hd, Result.andThen_ok]
              rfl
          · rcases ho with rfl | rfl <;> rfl
          · unfold eqGuard
            cases op <;> rfl
        | _ => cases h4
      | _ => cases h4
    | s =>
      obtain ⟨e, rfl⟩ := hcd
      cases v with
      | slice p1 l1 c1 => cases v' with
        | slice p2 l2 c2 =>
          obtain ⟨b, hb1, hb2⟩ := nilB_some (show nilB p1 p2 (fun b => k (.bool (@Bool.rec (fun _ => Bool) b (not b) neg))) = some res from h4)
          refine ⟨b, hb1, fun r n _ _ => ?_⟩
          obtain ⟨q1, a1, a2, e1, e3⟩ := sl_nil p1 l1 c1 r
          obtain ⟨q2, a3, a4, e2, e4⟩ := sl_nil p2 l2 c2 r
          rw [e1, e2]
          refine ⟨fun w => ?_, fun op ho => ?_, fun op w => ?_⟩
          · rw [equal_unf]
            generalize 9999 = dd
            rcases hb2 with ⟨rfl, rfl⟩ | ⟨h5, rfl, rfl⟩
            · have : q1 = none := by cases q1 <;> simp_all
              subst this
              simp only [Op.equalIn, bind, Sem.run_bind', run_und ht hd, Result.andThen_ok, ← e4]
              rfl
            · have : q2 = none := by cases q2 <;> simp_all
              subst this
              obtain ⟨q, rfl⟩ : ∃ q, q1 = some q := by cases q1 <;> simp_all
              simp only [Op.equalIn, bind, Sem.run_bind', run_und ht hd, Result.andThen_ok]
              rfl
          · rcases ho with rfl | rfl <;> rfl
          · unfold eqGuard
            cases op <;> rfl
        | _ => cases h4
      | _ => cases h4
    | f =>
      obtain ⟨ps, rs, vv, rfl⟩ := hcd
      have fin : ∀ (u1 u2 : Value) (b : Bool), (u1 = .nilFunc ∧ u2 = .nilFunc ∧ b = true) ∨ (u1 = .nilFunc ∧ (∃ f a c, u2 = .func f a c) ∧ b = false) ∨ ((∃ f a c, u1 = .func f a c) ∧ u2 = .nilFunc ∧ b = false) →
          (∀ w, (Op.equal t u1 u2).run P w = .ok b w) ∧ (∀ op, (op = BinOp.eql ∨ op = .neq) → Go.binOp op t u1 u2 = (if op = .eql then (do pure (.bool (← Op.equal t u1 u2))) else do pure (.bool (!(← Op.equal t u1 u2))))) ∧ ∀ op w, (eqGuard op t x y u1 u2).run P w = .ok () w := fun u1 u2 b hh => by
        rcases hh with ⟨rfl, rfl, rfl⟩ | ⟨rfl, ⟨f, a, c, rfl⟩, rfl⟩ | ⟨⟨f, a, c, rfl⟩, rfl, rfl⟩
        all_goals
          refine ⟨fun w => ?_, fun op ho => ?_, fun op w => ?_⟩
          · rw [equal_unf]
            generalize 9999 = dd
            simp only [Op.equalIn, bind, Sem.run_bind', run_und ht hd, Result.andThen_ok]
            rfl
          · rcases ho with rfl | rfl <;> rfl
          · unfold eqGuard
            cases op <;> rfl
      have isF_f : ∀ {v : Value}, isF v = true → ∃ f a c, v = .func f a c := fun {v} hv => by
        cases v with
        | func f a c => exact ⟨_, _, _, rfl⟩
        | _ => cases hv
      have isNF_f : ∀ {v : Value}, isNF v = true → v = .nilFunc := fun {v} hv => by
        cases v with
        | nilFunc => rfl
        | _ => cases hv
      rcases boolK h4 with ⟨a1, h5⟩ | ⟨a1, h5⟩
      · cases isNF_f a1
        rcases boolK h5 with ⟨a2, h6⟩ | ⟨a2, h6⟩
        · cases isNF_f a2
          exact ⟨true, h6, fun r n _ _ => fin _ _ _ (.inl ⟨rfl, rfl, rfl⟩)⟩
        · obtain ⟨a3, h7⟩ := boolK' h6
          obtain ⟨f, a, c, rfl⟩ := isF_f a3
          exact ⟨false, h7, fun r n _ _ => fin _ _ _ (.inr (.inl ⟨rfl, ⟨_, _, _, rfl⟩, rfl⟩))⟩
      · obtain ⟨a2, h6⟩ := boolK' h5
        obtain ⟨a3, h7⟩ := boolK' h6
        cases isNF_f a3
        obtain ⟨f, a, c, rfl⟩ := isF_f a2
        exact ⟨false, h7, fun r n _ _ => fin _ _ _ (.inr (.inr ⟨⟨_, _, _, rfl⟩, rfl, rfl⟩))⟩
  obtain ⟨b, g1, g2⟩ := key
  refine ⟨_, g1, fun r n a he => ⟨trivial, fun o ho w => ?_⟩⟩
  obtain ⟨w1, e1⟩ := copd_eval hx h1 he
  obtain ⟨w2, e2⟩ := copd_eval hy h3 he
  obtain ⟨q1, q2, q3⟩ := g2 r n w1 w2
  simp only [execOp, ho, e1, e2]
  refine run_v ?_
  simp only [bind, Sem.run_bind', q3, Result.andThen_ok]
  exact eql_run q1 q2
end
end Go.Proofs.YtccbdaffjkdpgaaGreatDoor.Vw
namespace Go.Proofs.YtccbdaffjkdpgaaGreatDoor.Vw

/-- the values of a type of so many cells are the same if their cells are -/
structure EqOk (P : Program) (t : TypeId) (m : Nat) : Prop where
  guard : P.eqGuardType P.depth t = false
  eql : ∀ xs ys b, xs.length = m → ys.length = m → eqCells .e xs ys = some b → ∀ w, (Op.equal t (.agg ⟨xs⟩) (.agg ⟨ys⟩)).run P w = .ok b w
  key : ∀ e xs, xs.length = m → ∀ w, (Instr.checkKey e 10000 t (.agg ⟨xs⟩)).run P w = .ok () w
def EqT (P : Program) (ty : Ty) : Prop := ∀ t m, eqOf ty t = some m → EqOk P t m

section
variable [Val] {P : Program} {ty : Ty} {live : List Nat} {cx : Cx} {len : Nat} {res : Value × H × Nat}

omit [Val] in
theorem lookOL_some {o a b : Nat} {v : Value} : ∀ {T : List Row}, lookOL T o a b = some v → ∃ w ∈ T, w.o = o ∧ w.a = a ∧ w.b = b ∧ w.v = v
  | [], h => by cases h
  | ⟨o', a', b', v'⟩ :: T, h => by
    have h1 : @Bool.rec (fun _ => Option Value) (lookOL T o a b) (@Bool.rec (fun _ => Option Value) (lookOL T o a b) (@Bool.rec (fun _ => Option Value) (lookOL T o a b) (some v') (Nat.beq o' o)) (Nat.beq b' b)) (Nat.beq a' a) = some v := h
    have rest : lookOL T o a b = some v → ∃ w ∈ (⟨o', a', b', v'⟩ :: T : List Row), w.o = o ∧ w.a = a ∧ w.b = b ∧ w.v = v := fun h => by
      obtain ⟨w, hw, h2⟩ := lookOL_some h
      exact ⟨w, List.mem_cons_of_mem _ hw, h2⟩
    cases e1 : Nat.beq a' a with
    | false => rw [e1] at h1; exact rest h1
    | true =>
      rw [e1] at h1
      cases e2 : Nat.beq b' b with
      | false => rw [e2] at h1; exact rest h1
      | true =>
        rw [e2] at h1
        cases e3 : Nat.beq o' o with
        | false => rw [e3] at h1; exact rest h1
        | true =>
          rw [e3] at h1
          exact ⟨_, List.mem_cons_self .., Nat.eq_of_beq_eq_true e3, Nat.eq_of_beq_eq_true e1, Nat.eq_of_beq_eq_true e2, Option.some.inj h1⟩
omit [Val] in
theorem lookO_some {o a b : Nat} {v : Value} {T : Tab} (h : lookO T o a b = some v) : ∃ w, T.has w ∧ w.o = o ∧ w.a = a ∧ w.b = b ∧ w.v = v := by
  unfold lookO at h
  rw [Tr.getK_eq] at h
  cases ha : T.at (kyT a b) with
  | none => rw [ha] at h; cases h
  | some l =>
    rw [ha] at h
    obtain ⟨w, hw, h2⟩ := lookOL_some h
    exact ⟨w, ⟨_, _, ha, hw⟩, h2⟩
theorem eqCell_ren (ht : TyOk P ty) {x y : Value} {b : Bool} (h : eqCell ty.tb x y = some b) (r : Ren) : eqCell .e (ren0 r x) (ren0 r y) = some b := by
  unfold eqCell at h
  cases x with
  | int k m => cases y with
    | int k' m' =>
      simp only at h
      cases hk : kEq k k' with
      | false => rw [hk] at h; cases h
      | true =>
        rw [hk] at h
        cases kEq_eq hk
        cases m with
        | negSucc m => cases h
        | ofNat m => cases m' with
          | negSucc m' => cases h
          | ofNat m' =>
            have fin : ∀ x y : Nat, x ≤ 18446744073709551615 → y ≤ 18446744073709551615 → vI (.ofNat m) = .ofNat x → vI (.ofNat m') = .ofNat y → b = Nat.beq x y → eqCell .e (ren0 r (.int k (.ofNat m))) (ren0 r (.int k (.ofNat m'))) = some b := fun x y hx hy ex ey e => by
              show eqCell .e (.int k (vI (.ofNat m))) (.int k (vI (.ofNat m'))) = some b
              rw [ex, ey]
              unfold eqCell
              have a1 : Nat.ble x 18446744073709551615 = true := Nat.ble_eq_true_of_le hx
              have a2 : Nat.ble y 18446744073709551615 = true := Nat.ble_eq_true_of_le hy
              simp only [hk]
              show @Bool.rec (fun _ => Option Bool) _ (@Bool.rec (fun _ => Option Bool) _ (some (Nat.beq x y)) (Nat.ble y 18446744073709551615)) (Nat.ble x 18446744073709551615) = some b
              rw [a1, a2, e]
            have row : boolO (lookO ty.tb (Nat.add 176 k.ctorIdx) m m') = some b → eqCell .e (ren0 r (.int k (.ofNat m))) (ren0 r (.int k (.ofNat m'))) = some b := fun h1 => by
              cases hl : lookO ty.tb (Nat.add 176 k.ctorIdx) m m' with
              | none => rw [hl] at h1; cases h1
              | some v =>
                rw [hl] at h1
                cases v with
                | bool q =>
                  have e : q = b := Option.some.inj h1
                  subst e
                  obtain ⟨w, hw, w1, w2, w3, w4⟩ := lookO_some hl
                  have hrow := (ht.tab w hw).bin .eql k (by rw [w1]; rfl) P 0 default
                  obtain ⟨x, y, hx, hy, ex, ey⟩ := (ht.tab w hw).nat k w1
                  rw [ex, ey] at hrow
                  obtain ⟨u, g1, g2, g3, g4⟩ := eq_g (P := P) k (.ofNat x) (.ofNat y) (fun v => some (v, .e, 0)) _ (.nat hx) (.nat hy) rfl
                  rw [g4 0 default, w4] at hrow
                  have e2 : u = .bool (eqI (.ofNat x) (.ofNat y)) := by
                    have := Option.some.inj g3
                    simp only [Prod.mk.injEq, and_true] at this
                    exact this
                  rw [e2] at hrow
                  injection hrow with e3
                  injection e3 with e4
                  rw [w2] at ex
                  rw [w3] at ey
                  exact fin x y hx hy ex ey e4.symm
                | _ => cases h1
            have h2 : @Bool.rec (fun _ => Option Bool) (boolO (lookO ty.tb (Nat.add 176 k.ctorIdx) m m')) (@Bool.rec (fun _ => Option Bool) (boolO (lookO ty.tb (Nat.add 176 k.ctorIdx) m m')) (some (Nat.beq m m')) (Nat.ble m' 18446744073709551615)) (Nat.ble m 18446744073709551615) = some b := h
            cases a1 : Nat.ble m 18446744073709551615 with
            | false => rw [a1] at h2; exact row h2
            | true =>
              rw [a1] at h2
              cases a2 : Nat.ble m' 18446744073709551615 with
              | false => rw [a2] at h2; exact row h2
              | true =>
                rw [a2] at h2
                have b1 := Nat.le_of_ble_eq_true a1
                have b2 := Nat.le_of_ble_eq_true a2
                exact fin m m' b1 b2 (vI_nat b1) (vI_nat b2) (Option.some.inj h2).symm
    | _ => cases h
  | _ => cases h
omit [Val] in
theorem eqCells_cons (T : Tab) (x y : Value) (l r : List Value) : eqCells T (x :: l) (y :: r) = match eqCell T x y with | some true => eqCells T l r | some false => some false | none => none := by
  rw [eqCells]
  all_goals
    cases eqCell T x y with
    | none => rfl
    | some b => cases b <;> rfl
theorem eqCells_ren (ht : TyOk P ty) : ∀ {xs ys : List Value} {b : Bool}, eqCells ty.tb xs ys = some b → ∀ r, eqCells .e (xs.map (ren0 r)) (ys.map (ren0 r)) = some b
  | [], [], b, h, r => h
  | [], _ :: _, b, h, r => by cases h
  | _ :: _, [], b, h, r => by cases h
  | x :: xs, y :: ys, b, h, r => by
    rw [eqCells_cons] at h
    rw [List.map_cons, List.map_cons, eqCells_cons]
    cases hc : eqCell ty.tb x y with
    | none => rw [hc] at h; cases h
    | some c =>
      rw [hc] at h
      rw [eqCell_ren ht hc r]
      cases c with
      | true => exact eqCells_ren ht h r
      | false => exact h

theorem eqAgg_s (ht : TyOk P ty) (he' : EqT P ty) {m : Nat} {neg : Bool} {t u : TypeId} {x y : Operand} {x' y' : Opd} (hm : eqOf ty t = some m) (hx : copd live cx len x = some x') (hy : copd live cx len y = some y') :
    PuS P live cx len (.binOp (if neg then .neq else .eql) t x y u) (eqAggP ty.tb neg m x' y') := fun L f k res h => by
  obtain ⟨v, h1, h2⟩ := ev_EvV h
  obtain ⟨v', h3, h4⟩ := ev_EvV h2
  obtain ⟨xs, rfl, h5⟩ := asAgg_some h4
  obtain ⟨ys, rfl, h6⟩ := asAgg_some h5
  obtain ⟨g1, h7⟩ := boolK' h6
  obtain ⟨g2, h8⟩ := boolK' h7
  obtain ⟨b, g3, h9⟩ := optK h8
  have l1 : xs.length = m := Nat.eq_of_beq_eq_true g1
  have l2 : ys.length = m := Nat.eq_of_beq_eq_true g2
  refine ⟨_, h9, fun r n a he => ⟨trivial, fun o ho w => ?_⟩⟩
  obtain ⟨_, e1⟩ := copd_eval hx h1 he
  obtain ⟨_, e2⟩ := copd_eval hy h3 he
  have hk := he' t m hm
  simp only [execOp, ho, e1, e2, agg_eval]
  refine run_v ?_
  have hg : (eqGuard (if neg then .neq else .eql) t x y (.agg (xs.map (ren0 r)).toArray) (.agg (ys.map (ren0 r)).toArray)).run P w = .ok () w := by
    cases neg <;> simp [eqGuard, hk.guard]
  simp only [bind, Sem.run_bind', hg, Result.andThen_ok]
  refine eql_run (fun w => hk.eql _ _ _ (by simpa using l1) (by simpa using l2) (eqCells_ren ht g3 r) w) (fun op ho => ?_)
  rcases ho with rfl | rfl <;> rfl

/-! bounds -/
omit [Val] in
theorem evO_some {o : Option Opd} {d : Nat} {L : Loc} {f : Fr} {k : Nat → R} (h : evO o d L f k = some res) : ∃ m, k m = some res ∧ ((o = none ∧ m = d) ∨ ∃ y kd, o = some y ∧ EvV y L f (.int kd (.ofNat m)) ∧ m ≤ MAX) := by
  cases o with
  | none => exact ⟨d, h, .inl ⟨rfl, rfl⟩⟩
  | some y =>
    obtain ⟨v, h1, h2⟩ := ev_EvV (show ev y L f (fun v => Vw.asNat v k) = some res from h)
    obtain ⟨kd, m, rfl, h3, h4⟩ := asNat_some h2
    exact ⟨m, h4, .inr ⟨y, kd, rfl, h1, h3⟩⟩
/-- an operand that may be left out is this number -/
def OptN (o : Option Opd) (L : Loc) (f : Fr) (d m : Nat) : Prop := (o = none ∧ m = d) ∨ ∃ y kd, o = some y ∧ EvV y L f (.int kd (.ofNat m)) ∧ m ≤ MAX
omit [Val] in
theorem bnds_some {L : Loc} {f : Fr} {ln cap : Nat} {lo hi mx : Option Opd} {k : Nat → Nat → Nat → R} (h : bnds L f ln cap lo hi mx k = some res) :
    ∃ l hh m, k l (hh - l) (m - l) = some res ∧ l ≤ hh ∧ hh ≤ m ∧ m ≤ cap ∧ OptN mx L f cap m ∧ OptN hi L f ln hh ∧ OptN lo L f 0 l := by
  obtain ⟨m, h1, h2⟩ := evO_some h
  obtain ⟨hh, h3, h4⟩ := evO_some h1
  obtain ⟨l, h5, h6⟩ := evO_some h3
  obtain ⟨g1, h7⟩ := boolK' h5
  obtain ⟨g2, h8⟩ := boolK' h7
  obtain ⟨g3, h9⟩ := boolK' h8
  rw [forceN_eq, forceN_eq] at h9
  exact ⟨l, hh, m, h9, Nat.le_of_ble_eq_true g1, Nat.le_of_ble_eq_true g2, Nat.le_of_ble_eq_true g3, h2, h4, h6⟩

omit [Val] in
theorem sb_one {kd : IntKind} {m y : Nat} {c : BoundsCode} (h : m ≤ y) (w : World) : (Instr.sliceBound (.int kd (.ofNat m)) y c).run P w = .ok m w := by
  have hb : (0 : Int) ≤ Int.ofNat m ∧ Int.ofNat m ≤ (y : Int) := ⟨Int.natCast_nonneg m, by simpa using h⟩
  unfold Instr.sliceBound
  simp only [bind, Sem.run_bind', asIntOf, pure, Sem.run, Result.andThen_ok, hb, and_self, if_true]
  rfl
omit [Val] in
theorem sb_run {isS : Bool} {ln cap l h m : Nat} {lo hi mx : Option Value} (hm : (mx = none ∧ m = cap) ∨ ((∃ kd, mx = some (.int kd (.ofNat m))) ∧ m ≤ cap ∧ hi ≠ none)) (hh : (hi = none ∧ h = ln) ∨ ((∃ kd, hi = some (.int kd (.ofNat h))) ∧ h ≤ m))
    (hl : (lo = none ∧ l = 0) ∨ ((∃ kd, lo = some (.int kd (.ofNat l))) ∧ l ≤ h)) (w : World) : (Instr.sliceBounds isS ln cap lo hi mx).run P w = .ok (l, h, m) w := by
  unfold Instr.sliceBounds
  rcases hm with ⟨rfl, rfl⟩ | ⟨⟨k1, rfl⟩, hm, hne⟩
  · rcases hh with ⟨rfl, rfl⟩ | ⟨⟨k2, rfl⟩, hh⟩
    · rcases hl with ⟨rfl, rfl⟩ | ⟨⟨k3, rfl⟩, hl⟩
      · rfl
      · simp only [bind, Sem.run_bind', pure, Sem.run, Result.andThen_ok, sb_one hl]
    · rcases hl with ⟨rfl, rfl⟩ | ⟨⟨k3, rfl⟩, hl⟩
      · simp only [bind, Sem.run_bind', pure, Sem.run, Result.andThen_ok, sb_one hh]
      · simp only [bind, Sem.run_bind', pure, Sem.run, Result.andThen_ok, sb_one hh, sb_one hl]
  · rcases hh with ⟨rfl, rfl⟩ | ⟨⟨k2, rfl⟩, hh⟩
    · exact absurd rfl hne
    · rcases hl with ⟨rfl, rfl⟩ | ⟨⟨k3, rfl⟩, hl⟩
      · simp only [bind, Sem.run_bind', pure, Sem.run, Result.andThen_ok, sb_one hm, sb_one hh]
      · simp only [bind, Sem.run_bind', pure, Sem.run, Result.andThen_ok, sb_one hm, sb_one hh, sb_one hl]

/-- An operand that may be left out, in the model. -/
theorem optN_eval {o : Option Operand} {o' : Option Opd} {L : Loc} {f : Fr} {d m n : Nat} {r : Ren} {a : Act} (hc : cot live cx len o = some o') (h : OptN o' L f d m) (he : EnvR live cx len L f n r a) :
    (o.map a.eval = none ∧ o = none ∧ m = d) ∨ ((∃ kd, o.map a.eval = some (.int kd (.ofNat m))) ∧ m ≤ MAX ∧ o ≠ none) := by
  cases o with
  | none =>
    cases hc
    rcases h with ⟨_, h⟩ | ⟨y, kd, e, _⟩
    · exact .inl ⟨rfl, rfl, h⟩
    · cases e
  | some x =>
    unfold cot at hc
    cases hx : copd live cx len x with
    | none => simp only [hx] at hc; cases hc
    | some x' =>
      simp only [hx] at hc
      cases hc
      rcases h with ⟨e, _⟩ | ⟨y, kd, e, hv, hm⟩
      · cases e
      · cases e
        obtain ⟨_, e1⟩ := copd_eval hx hv he
        exact .inr ⟨⟨kd, by simp only [e1, Option.map_some]; rw [ren_nat hm]⟩, hm, by simp⟩

omit [Val] in
theorem ite_spot {c : Prop} [Decidable c] {p : Addr} (h : p.spot = none) (m : Nat) : (if c then p else p.add m).spot = none := by
  split
  · exact h
  · exact add_none h m
omit [Val] in
theorem ite_block {c : Prop} [Decidable c] (p : Addr) (m : Nat) : (if c then p else p.add m).block = p.block := by
  split
  · rfl
  · exact add_block p m
omit [Val] in
theorem add_mk (b off m : Nat) : (⟨b, off, none⟩ : Addr).add m = ⟨b, off + m, none⟩ := by
  unfold Addr.add
  split
  · rename_i h; simp [h]
  · rfl
omit [Val] in
theorem shiftA_some {a : Addr} {l size y : Nat} {k : Addr → R} (h : shiftA a l size y k = some res) : k (if y = 0 then a else a.add (l * size)) = some res := by
  cases y with
  | zero => exact h
  | succ y => exact addA_some h

omit [Val] in
theorem open_max : MAX < OPEN := by decide

theorem slArr_s (ht : TyOk P ty) {t e : TypeId} {x : Operand} {lo hi mx : Option Operand} {x' : Opd} {lo' hi' mx' : Option Opd} {m size : Nat} (hx : copd live cx len x = some x') (hlo : cot live cx len lo = some lo') (hhi : cot live cx len hi = some hi')
    (hmx : cot live cx len mx = some mx') (hno : hi = none → mx = none) (hd : und ty t = some (.array m e)) (hs : tsize ty e = some size) (hsm : m ≤ 1048576) : PuS P live cx len (.slice t x lo hi mx) (slArrP m size x' lo' hi' mx') := fun L f k res h => by
  obtain ⟨v, h1, h2⟩ := ev_EvV h
  obtain ⟨p, rfl, h3⟩ := asPtr_some h2
  obtain ⟨l, hh, q, h4, b1, b2, b3, o1, o2, o3⟩ := bnds_some h3
  have h5 := shiftA_some h4
  refine ⟨_, h5, fun r n a he => ?_⟩
  obtain ⟨w1, e1⟩ := copd_eval hx h1 he
  have hq : q - l < OPEN := by have := open_max; unfold OPEN; omega
  have hsp : (if q - l = 0 then p else p.add (l * size)).spot = none := ite_spot w1.2 _
  have hbl : (if q - l = 0 then p else p.add (l * size)).block = p.block := ite_block _ _
  refine ⟨⟨by rw [hbl]; exact w1.1, fun _ hn => absurd hsp hn, fun hn => absurd hsp hn, fun ho => by omega⟩, fun op ho w => ?_⟩
  simp only [execOp, ho, e1, ptr_eval]
  refine run_v ?_
  rw [sl_eval hsp, if_pos hq]
  unfold Instr.sliceAt
  have hb := sb_run (P := P) (isS := false) (ln := m) (cap := m) (l := l) (h := hh) (m := q) (lo := lo.map a.eval) (hi := hi.map a.eval) (mx := mx.map a.eval)
    (by rcases optN_eval hmx o1 he with ⟨g, _, g'⟩ | ⟨g, _, g'⟩
        · exact .inl ⟨g, g'⟩
        · exact .inr ⟨g, b3, fun hn => g' (hno (by cases hi <;> simp_all))⟩)
    (by rcases optN_eval hhi o2 he with ⟨g, _, g'⟩ | ⟨g, _, _⟩
        · exact .inl ⟨g, g'⟩
        · exact .inr ⟨g, b2⟩)
    (by rcases optN_eval hlo o3 he with ⟨g, _, g'⟩ | ⟨g, _, _⟩
        · exact .inl ⟨g, g'⟩
        · exact .inr ⟨g, b1⟩) w
  simp only [bind, Sem.run_bind', run_und ht hd, Result.andThen_ok, Instr.sureAddr, pure, Sem.run, hb, run_size ht hs]
  congr 3
  by_cases hql : q = l
  · rw [if_pos hql, if_pos (by omega)]
  · rw [if_neg hql, if_neg (by omega), add_ra]

theorem slStr_s (ht : TyOk P ty) {t : TypeId} {x : Operand} {lo hi : Option Operand} {x' : Opd} {lo' hi' : Option Opd} (hx : copd live cx len x = some x') (hlo : cot live cx len lo = some lo') (hhi : cot live cx len hi = some hi')
    (hd : und ty t = some .string) : PuS P live cx len (.slice t x lo hi none) (slStrP x' lo' hi') := fun L f k res h => by
  obtain ⟨v, h1, h2⟩ := ev_EvV h
  obtain ⟨s, rfl, h3⟩ := asStr_some h2
  obtain ⟨l, hh, q, h4, b1, b2, b3, o1, o2, o3⟩ := bnds_some h3
  refine ⟨_, h4, fun r n a he => ⟨trivial, fun op ho w => ?_⟩⟩
  obtain ⟨_, e1⟩ := copd_eval hx h1 he
  simp only [execOp, ho, e1, show ∀ s, ren r (.string s) = .string s from fun _ => rfl]
  refine run_v ?_
  unfold Instr.sliceAt
  have hq : q = s.size := by
    rcases o1 with ⟨_, o1⟩ | ⟨y, kd, e, _⟩
    · exact o1
    · cases e
  have hb := sb_run (P := P) (isS := false) (ln := s.size) (cap := s.size) (l := l) (h := hh) (m := q) (lo := lo.map a.eval) (hi := hi.map a.eval) (mx := none) (.inl ⟨rfl, hq⟩)
    (by rcases optN_eval hhi o2 he with ⟨g, _, g'⟩ | ⟨g, _, _⟩
        · exact .inl ⟨g, g'⟩
        · exact .inr ⟨g, b2⟩)
    (by rcases optN_eval hlo o3 he with ⟨g, _, g'⟩ | ⟨g, _, _⟩
        · exact .inl ⟨g, g'⟩
        · exact .inr ⟨g, b1⟩) w
  simp only [bind, Sem.run_bind', run_und ht hd, Result.andThen_ok]
  unfold Instr.slice
  simp only [bind, Sem.run_bind', run_und ht hd, Result.andThen_ok, Option.map_none, Option.isSome_none, Bool.false_eq_true, if_false, hb]
  rw [show l + (hh - l) = hh by omega]
  rfl

omit [Val] in
theorem slSame (size z : Nat) (p : Addr) : Value.slice (if z = 0 then some p else (some p).map (·.add (0 * size))) (0 - 0) (z - 0) = .slice (some p) 0 z := by
  have e : p.add (0 * size) = p := by rw [Nat.zero_mul]; rfl
  rw [Option.map_some, e, ite_self, Nat.sub_zero, Nat.sub_zero]
omit [Val] in
theorem slSpot {c : Nat} (h0 : 0 < OPEN) (hlt : c < SPB) (r : Ren) (b off s : Nat) : rsl r ⟨b, off, some (s * SPB + c)⟩ 0 0 = .slice (some ⟨r.blk b, if r.cap b ≤ c then off else off + s, none⟩) 0 0 := by
  have hpos : 0 < SPB := Nat.lt_of_le_of_lt (Nat.zero_le _) hlt
  unfold rsl
  rw [if_pos h0]
  simp only
  generalize SPB = B at *
  have m1 : (s * B + c) % B = c := by
    rw [Nat.mul_comm, Nat.mul_add_mod]
    exact Nat.mod_eq_of_lt hlt
  have m2 : (s * B + c) / B = s := by
    rw [Nat.mul_comm, Nat.mul_add_div hpos, Nat.div_eq_of_lt hlt, Nat.add_zero]
  rw [m1, m2]

omit [Val] in
theorem spotK_some {b off s cap B Z : Nat} {k : Value → R} (h : spotK b off s cap B Z k = some res) : cap - Z < B ∧ k (.slice (some ⟨b, off, some (s * B + (cap - Z))⟩) 0 0) = some res := by
  obtain ⟨c3, h7⟩ := boolK' h
  rw [forceN_eq] at h7
  exact ⟨Nat.le_of_ble_eq_true c3, h7⟩
theorem slSl_s (ht : TyOk P ty) {t e : TypeId} {x : Operand} {lo hi mx : Option Operand} {x' : Opd} {lo' hi' mx' : Option Opd} {size : Nat} (hx : copd live cx len x = some x') (hlo : cot live cx len lo = some lo') (hhi : cot live cx len hi = some hi')
    (hmx : cot live cx len mx = some mx') (hno : hi = none → mx = none) (hd : und ty t = some (.slice e)) (hs : tsize ty e = some size) : PuS P live cx len (.slice t x lo hi mx) (slSlP size x' lo' hi' mx') := fun L f k res h => by
  obtain ⟨v, h1, h2⟩ := ev_EvV h
  obtain ⟨p, ln, cap, rfl, h3⟩ := asSl_some h2
  -- the model's, with the cap that it has
  have run : ∀ (r : Ren) (n : Nat) (a : Act), EnvR live cx len L f n r a → ∀ (p' : Option Addr) (c' l hh q : Nat), ren r (.slice p ln cap) = .slice p' ln c' → l ≤ hh → hh ≤ q → q ≤ c' →
      ((mx' = none ∧ q = c') ∨ ∃ y kd, mx' = some y ∧ EvV y L f (.int kd (.ofNat q)) ∧ q ≤ MAX) → OptN hi' L f ln hh → OptN lo' L f 0 l → ∀ (op : Oper), op.op = .slice t x lo hi mx → ∀ w,
      (execOp a.eval op).run P w = .ok (.value (.slice (if q = l then p' else p'.map (·.add (l * size))) (hh - l) (q - l))) w := fun r n a he p' c' l hh q hp b1 b2 b3 o1 o2 o3 op ho w => by
    obtain ⟨_, e1⟩ := copd_eval hx h1 he
    simp only [execOp, ho, e1, hp]
    refine run_v ?_
    have o1' : (mx.map a.eval = none ∧ q = c') ∨ ((∃ kd, mx.map a.eval = some (.int kd (.ofNat q))) ∧ q ≤ c' ∧ hi.map a.eval ≠ none) := by
      cases mx with
      | none =>
        cases hmx
        rcases o1 with ⟨_, o1⟩ | ⟨y, kd, e, _⟩
        · exact .inl ⟨rfl, o1⟩
        · cases e
      | some mx =>
        unfold cot at hmx
        cases hm : copd live cx len mx with
        | none => simp only [hm] at hmx; cases hmx
        | some m' =>
          simp only [hm] at hmx
          cases hmx
          rcases o1 with ⟨e, _⟩ | ⟨y, kd, e, hv, hvm⟩
          · cases e
          · cases e
            obtain ⟨_, e2⟩ := copd_eval hm hv he
            exact .inr ⟨⟨kd, by simp only [e2, Option.map_some]; rw [ren_nat hvm]⟩, b3, fun hn => by
              have : hi = none := by cases hi <;> simp_all
              have := hno this
              cases this⟩
    have hb := sb_run (P := P) (isS := true) (ln := ln) (cap := c') (l := l) (h := hh) (m := q) (lo := lo.map a.eval) (hi := hi.map a.eval) (mx := mx.map a.eval) o1'
      (by rcases optN_eval hhi o2 he with ⟨g, _, g'⟩ | ⟨g, _, _⟩
          · exact .inl ⟨g, g'⟩
          · exact .inr ⟨g, b2⟩)
      (by rcases optN_eval hlo o3 he with ⟨g, _, g'⟩ | ⟨g, _, _⟩
          · exact .inl ⟨g, g'⟩
          · exact .inr ⟨g, b1⟩) w
    unfold Instr.sliceAt
    simp only [bind, Sem.run_bind', run_und ht hd, Result.andThen_ok]
    unfold Instr.slice
    simp only [bind, Sem.run_bind', run_und ht hd, Result.andThen_ok, hb, run_size ht hs]
    rfl
  rcases boolK h3 with ⟨c1, h4⟩ | ⟨c1, h4⟩
  · have hop : OPEN ≤ cap := Nat.le_of_ble_eq_true c1
    obtain ⟨p, rfl, h5⟩ := optK h4
    obtain ⟨b, off, spot⟩ := p
    cases spot with
    | some s =>
      obtain ⟨l, hh, q, h6, b1, b2, b3, o1, o2, o3⟩ := bnds_some (show bnds L f 0 0 lo' hi' mx' _ = some res from h5)
      have hq : q = 0 := by omega
      have hhh : hh = 0 := by omega
      have hl : l = 0 := by omega
      subst hq hhh hl
      have base : ∀ (r : Ren) (n : Nat), wf n r (.slice (some ⟨b, off, some s⟩) ln cap) → ln = 0 ∧ ren r (.slice (some ⟨b, off, some s⟩) ln cap) = .slice (some ⟨r.blk b, if r.cap b ≤ cap - OPEN then off else off + s, none⟩) ln (r.cap b - (cap - OPEN)) := fun r n hw => by
        refine ⟨hw.2.2.1 (by simp), ?_⟩
        show rsl r ⟨b, off, some s⟩ ln cap = _
        unfold rsl
        rw [if_neg (by omega)]
      cases mx' with
      | none =>
        refine ⟨_, h6, fun r n a he => ?_⟩
        obtain ⟨w1, e1⟩ := copd_eval hx h1 he
        obtain ⟨g0, g1⟩ := base r n w1
        subst g0
        refine ⟨w1, fun op ho w => ?_⟩
        have hrun := run r n a he (some ⟨r.blk b, if r.cap b ≤ cap - OPEN then off else off + s, none⟩) (r.cap b - (cap - OPEN)) 0 0 (r.cap b - (cap - OPEN)) g1 (Nat.le_refl _) (Nat.zero_le _) (Nat.le_refl _) (.inl ⟨rfl, rfl⟩) o2 o3 op ho w
        refine hrun.trans (congrArg (fun v => Result.ok (Next.value v) w) (Eq.trans ?_ g1.symm))
        exact slSame size _ _
      | some m =>
        obtain ⟨hlt, h7⟩ := spotK_some (show spotK b off s cap SPB OPEN k = some res from h6)
        refine ⟨_, h7, fun r n a he => ?_⟩
        obtain ⟨w1, e1⟩ := copd_eval hx h1 he
        obtain ⟨g0, g1⟩ := base r n w1
        subst g0
        refine ⟨⟨w1.1, fun _ _ => rfl, fun _ => rfl, fun ho => absurd ho (by decide)⟩, fun op ho w => ?_⟩
        have o1' : ∃ y kd, (some m : Option Opd) = some y ∧ EvV y L f (.int kd (.ofNat 0)) ∧ 0 ≤ MAX := by
          rcases o1 with ⟨e, _⟩ | h
          · cases e
          · exact h
        have hrun := run r n a he (some ⟨r.blk b, if r.cap b ≤ cap - OPEN then off else off + s, none⟩) (r.cap b - (cap - OPEN)) 0 0 0 g1 (Nat.le_refl _) (Nat.le_refl _) (Nat.zero_le _) (.inr o1') o2 o3 op ho w
        refine hrun.trans (congrArg (fun v => Result.ok (Next.value v) w) ?_)
        exact (slSame size 0 _).trans (slSpot (by decide) hlt r b off s).symm
    | none =>
      cases mx' with
      | none =>
        obtain ⟨l, hh, q, h6, b1, b2, b3, o1, o2, o3⟩ := bnds_some (show bnds L f ln ln lo' hi' none _ = some res from h5)
        have hq : q = ln := by
          rcases o1 with ⟨_, o1⟩ | ⟨y, kd, e, _⟩
          · exact o1
          · cases e
        subst hq
        have fin : ∀ v, k v = some res → (∀ (r : Ren) (n : Nat), wf n r (.slice (some ⟨b, off, none⟩) q cap) → wf n r v ∧
            ren r v = .slice (some (if r.cap b - (cap - OPEN) = l then ra r ⟨b, off, none⟩ else (ra r ⟨b, off, none⟩).add (l * size))) (hh - l) (r.cap b - (cap - OPEN) - l)) →
            ∃ v, k v = some res ∧ ∀ r n a, EnvR live cx len L f n r a → wf n r v ∧ ∀ (op : Oper), op.op = .slice t x lo hi mx → ∀ w, (execOp a.eval op).run P w = .ok (.value (ren r v)) w := fun v hv hw => by
          refine ⟨v, hv, fun r n a he => ?_⟩
          obtain ⟨w1, e1⟩ := copd_eval hx h1 he
          obtain ⟨g1, g2⟩ := hw r n w1
          refine ⟨g1, fun op ho w => ?_⟩
          have hcap : q ≤ r.cap b - (cap - OPEN) := by have := w1.2.2.2 hop; simp only at this; omega
          have hren : ren r (.slice (some ⟨b, off, none⟩) q cap) = .slice (some (ra r ⟨b, off, none⟩)) q (r.cap b - (cap - OPEN)) := by rw [sl_eval rfl, if_neg (by omega)]
          rw [run r n a he _ _ l hh _ hren b1 (Nat.le_trans b2 hcap) (Nat.le_refl _) (.inl ⟨rfl, rfl⟩) o2 o3 op ho w, g2]
          by_cases hc : r.cap b - (cap - OPEN) = l
          · rw [if_pos hc, if_pos hc]
          · rw [if_neg hc, if_neg hc]
            rfl
        cases hy : q - l with
        | zero =>
          rw [hy] at h6
          have hlq : l = q := by omega
          subst hlq
          have hhl : hh = l := by omega
          subst hhl
          cases hh with
          | zero =>
            refine fin _ h6 fun r n hw => ⟨⟨hw.1, hw.2.1, fun h0 => rfl, fun hc => hw.2.2.2 hc⟩, ?_⟩
            have e0 : (ra r ⟨b, off, none⟩).add (0 * size) = ra r ⟨b, off, none⟩ := by rw [Nat.zero_mul]; rfl
            rw [sl_eval rfl, if_neg (by omega), e0, ite_self, Nat.sub_zero, Nat.sub_zero]
          | succ l' =>
            have h7 : forceN (Nat.add cap (l' + 1)) (fun c => forceN (Nat.mul (l' + 1) size) fun s => k (.slice (some ⟨b, off, some s⟩) 0 c)) = some res := h6
            rw [forceN_eq, forceN_eq] at h7
            refine fin _ h7 fun r n hw => ⟨⟨hw.1, fun hc _ => ?_, fun _ => rfl, fun hc => ?_⟩, ?_⟩
            · exact absurd hc (by show ¬ (cap + (l' + 1) < OPEN); omega)
            · have := hw.2.2.2 hop
              show 0 + (cap + (l' + 1) - OPEN) ≤ r.cap b
              simp only at this
              omega
            · show rsl r ⟨b, off, some ((l' + 1) * size)⟩ 0 (cap + (l' + 1)) = _
              unfold rsl
              rw [if_neg (by omega)]
              simp only
              have hcap := hw.2.2.2 hop
              simp only at hcap
              have e1 : r.cap b - (cap + (l' + 1) - OPEN) = r.cap b - (cap - OPEN) - (l' + 1) := by omega
              rw [e1, Nat.sub_self]
              by_cases hc : r.cap b - (cap - OPEN) = l' + 1
              · rw [if_pos (by omega), if_pos hc]
                rfl
              · rw [if_neg (by omega), if_neg hc]
                show Value.slice (some ⟨r.blk b, off + (l' + 1) * size, none⟩) _ _ = Value.slice (some ((⟨r.blk b, off, none⟩ : Addr).add ((l' + 1) * size))) _ _
                rw [add_mk]
        | succ y =>
          rw [hy] at h6
          have h7 := addA_some (show addA ⟨b, off, none⟩ (Nat.mul l size) _ = some res from h6)
          rw [forceN_eq] at h7
          refine fin _ h7 fun r n hw => ?_
          have hcap := hw.2.2.2 hop
          simp only at hcap
          have hsp : ((⟨b, off, none⟩ : Addr).add (Nat.mul l size)).spot = none := add_none rfl _
          refine ⟨⟨by rw [add_block]; exact hw.1, fun _ hn => absurd hsp hn, fun hn => absurd hsp hn, fun _ => ?_⟩, ?_⟩
          · rw [add_block]
            show hh - l + (cap + l - OPEN) ≤ r.cap b
            omega
          · rw [sl_eval hsp, if_neg (by show ¬ (cap + l < OPEN); omega), if_neg (by omega), add_block, add_ra]
            show Value.slice _ _ (r.cap b - (cap + l - OPEN)) = _
            rw [show r.cap b - (cap + l - OPEN) = r.cap b - (cap - OPEN) - l by omega]
            rfl
      | some mx' =>
        obtain ⟨l, hh, q, h6, b1, b2, b3, o1, o2, o3⟩ := bnds_some (show bnds L f ln ln lo' hi' (some mx') _ = some res from h5)
        have h7 := shiftA_some h6
        refine ⟨_, h7, fun r n a he => ?_⟩
        obtain ⟨w1, e1⟩ := copd_eval hx h1 he
        have hqm : q ≤ MAX ∧ ∃ kd, EvV mx' L f (.int kd (.ofNat q)) := by
          rcases o1 with ⟨e, _⟩ | ⟨y, kd, e, hv, hm⟩
          · cases e
          · cases e; exact ⟨hm, kd, hv⟩
        have hql : q - l < OPEN := by have := open_max; omega
        have hsp : (if q - l = 0 then (⟨b, off, none⟩ : Addr) else (⟨b, off, none⟩ : Addr).add (l * size)).spot = none := ite_spot rfl _
        have hbl : (if q - l = 0 then (⟨b, off, none⟩ : Addr) else (⟨b, off, none⟩ : Addr).add (l * size)).block = b := ite_block _ _
        refine ⟨⟨by rw [hbl]; exact w1.1, fun _ hn => absurd hsp hn, fun hn => absurd hsp hn, fun ho => by omega⟩, fun op ho w => ?_⟩
        have hcap : ln ≤ r.cap b - (cap - OPEN) := by have := w1.2.2.2 hop; simp only at this; omega
        have hren : ren r (.slice (some ⟨b, off, none⟩) ln cap) = .slice (some (ra r ⟨b, off, none⟩)) ln (r.cap b - (cap - OPEN)) := by rw [sl_eval rfl, if_neg (by omega)]
        obtain ⟨kd, hv⟩ := hqm.2
        rw [run r n a he _ _ l hh q hren b1 b2 (by omega) (.inr ⟨mx', kd, rfl, hv, hqm.1⟩) o2 o3 op ho w, sl_eval hsp, if_pos hql]
        congr 3
        by_cases hq0 : q = l
        · rw [if_pos hq0, if_pos (by omega)]
        · rw [if_neg hq0, if_neg (by omega), Option.map_some, add_ra]
  · have hop : cap < OPEN := by
      have : ¬ (OPEN ≤ cap) := fun hh => by rw [Nat.ble_eq_true_of_le hh] at c1; cases c1
      omega
    have h4' : ∃ kk, bnds L f ln cap lo' hi' mx' kk = some res ∧ ∀ l x y, kk l x y = some res → (p = none ∧ k (.slice none x y) = some res) ∨ ∃ b off, p = some ⟨b, off, none⟩ ∧ shiftA ⟨b, off, none⟩ l size y (fun a => k (.slice (some a) x y)) = some res := by
      cases p with
      | none => exact ⟨_, h4, fun l x y hk => .inl ⟨rfl, hk⟩⟩
      | some p =>
        obtain ⟨b, off, spot⟩ := p
        cases spot with
        | none => exact ⟨_, h4, fun l x y hk => .inr ⟨b, off, rfl, hk⟩⟩
        | some s => cases h4
    obtain ⟨kk, h4, hkk⟩ := h4'
    obtain ⟨l, hh, q, h6, b1, b2, b3, o1, o2, o3⟩ := bnds_some h4
    have o1' : (mx' = none ∧ q = cap) ∨ ∃ y kd, mx' = some y ∧ EvV y L f (.int kd (.ofNat q)) ∧ q ≤ MAX := by
      rcases o1 with ⟨e, o1⟩ | ⟨y, kd, e, hv, hqm⟩
      · exact .inl ⟨e, o1⟩
      · exact .inr ⟨y, kd, e, hv, hqm⟩
    rcases hkk _ _ _ h6 with ⟨rfl, h6⟩ | ⟨b, off, rfl, h6⟩
    · refine ⟨_, h6, fun r n a he => ⟨trivial, fun op ho w => ?_⟩⟩
      rw [run r n a he none cap l hh q rfl b1 b2 b3 o1' o2 o3 op ho w]
      congr 3
      split <;> rfl
    · generalize hp : (⟨b, off, none⟩ : Addr) = p at *
      have hsp0 : p.spot = none := by rw [← hp]
      have h7 := shiftA_some h6
      refine ⟨_, h7, fun r n a he => ?_⟩
      obtain ⟨w1, e1⟩ := copd_eval hx h1 he
      have hsp : (if q - l = 0 then p else p.add (l * size)).spot = none := ite_spot hsp0 _
      have hbl : (if q - l = 0 then p else p.add (l * size)).block = p.block := ite_block _ _
      refine ⟨⟨by rw [hbl]; exact w1.1, fun _ hn => absurd hsp hn, fun hn => absurd hsp hn, fun ho => by omega⟩, fun op ho w => ?_⟩
      have hren : ren r (.slice (some p) ln cap) = .slice (some (ra r p)) ln cap := by rw [sl_eval hsp0, if_pos hop]
      have hql : q - l < OPEN := by omega
      rw [run r n a he _ _ l hh q hren b1 b2 b3 o1' o2 o3 op ho w, sl_eval hsp, if_pos hql]
      congr 3
      by_cases hq0 : q = l
      · rw [if_pos hq0, if_pos (by omega)]
      · rw [if_neg hq0, if_neg (by omega), Option.map_some, add_ra]
end
end Go.Proofs.YtccbdaffjkdpgaaGreatDoor.Vw
namespace Go.Proofs.YtccbdaffjkdpgaaGreatDoor.Vw

section
variable [Val] {P : Program} {ty : Ty} {live : List Nat} {cx : Cx} {len : Nat}

omit [Val] in
theorem cot_none {o : Option Operand} {o' : Option Opd} (h : cot live cx len o = some o') : o' = none → o = none := fun hn => by
  cases o with
  | none => rfl
  | some x =>
    unfold cot at h
    cases hx : copd live cx len x with
    | none => simp only [hx] at h; cases h
    | some y => simp only [hx] at h; cases h; cases hn

theorem ceq_s (ht : TyOk P ty) {c : EqC} {op : BinOp} {t u : TypeId} {x y : Operand} {x' y' : Opd} {d : TypeDesc} {g : Pu} (hd : und ty t = some d)
    (hcd : match c with | .b => d = .bool | .p => ∃ e, d = .pointer e | .s => ∃ e, d = .slice e | .f => ∃ ps rs v, d = .func ps rs v)
    (hx : copd live cx len x = some x') (hy : copd live cx len y = some y') (h : ceq c op x' y' = some g) : PuS P live cx len (.binOp op t x y u) g := by
  cases op <;> first | (cases h; done) | skip
  · cases h
    exact eqP_s (neg := false) ht hd hcd hx hy
  · cases h
    exact eqP_s (neg := true) ht hd hcd hx hy
theorem ceqA_s (ht : TyOk P ty) (he : EqT P ty) {m : Nat} {op : BinOp} {t u : TypeId} {x y : Operand} {x' y' : Opd} {g : Pu} (hm : eqOf ty t = some m)
    (hx : copd live cx len x = some x') (hy : copd live cx len y = some y') (h : ceqA ty m op x' y' = some g) : PuS P live cx len (.binOp op t x y u) g := by
  cases op <;> first | (cases h; done) | skip
  · cases h
    exact eqAgg_s (neg := false) ht he hm hx hy
  · cases h
    exact eqAgg_s (neg := true) ht he hm hx hy

theorem cbin_s (ht : TyOk P ty) (he : EqT P ty) {op : BinOp} {t u : TypeId} {x y : Operand} {x' y' : Opd} {g : Pu} (hx : copd live cx len x = some x') (hy : copd live cx len y = some y') (h : cbin ty op t x' y' = some g) :
    PuS P live cx len (.binOp op t x y u) g := by
  unfold cbin at h
  cases hd : und ty t with
  | none => rw [hd] at h; cases h
  | some d =>
    rw [hd] at h
    cases d <;> try (cases h; done)
    case bool => exact ceq_s ht hd rfl hx hy h
    case int k =>
      unfold cbinI at h
      cases op
      · cases h; exact int2_s ht rfl add_g hx hy
      · cases h; exact int2_s ht rfl sub_g hx hy
      · cases h; exact int2_s ht rfl mul_g hx hy
      · cases h; exact int2_s ht rfl quo_g hx hy
      · cases h; exact int2_s ht rfl rem_g hx hy
      · cases h; exact int2_s ht rfl and_g hx hy
      · cases h; exact int2_s ht rfl or_g hx hy
      · cases h; exact int2_s ht rfl (bits_g .xor (.inr (.inr (.inl rfl)))) hx hy
      · cases h; exact sh_s ht (left := true) hx hy
      · cases h; exact sh_s ht (left := false) hx hy
      · cases h; exact int2_s ht rfl (bits_g .andNot (.inr (.inr (.inr rfl)))) hx hy
      · cases h; exact int2_s ht rfl eq_g hx hy
      · cases h; exact int2_s ht rfl ne_g hx hy
      · cases h; exact int2_s ht rfl lt_g hx hy
      · cases h; exact int2_s ht rfl le_g hx hy
      · cases h; exact int2_s ht rfl gt_g hx hy
      · cases h; exact int2_s ht rfl ge_g hx hy
    case string => cases h; exact str_s hx hy
    case pointer e => exact ceq_s (c := .p) ht hd ⟨e, rfl⟩ hx hy h
    case slice e => exact ceq_s (c := .s) ht hd ⟨e, rfl⟩ hx hy h
    case array m e =>
      simp only at h
      cases hm : eqOf ty t with
      | none => rw [hm] at h; cases h
      | some m => rw [hm] at h; exact ceqA_s ht he hm hx hy h
    case struct fs =>
      simp only at h
      cases hm : eqOf ty t with
      | none => rw [hm] at h; cases h
      | some m => rw [hm] at h; exact ceqA_s ht he hm hx hy h
    case func ps rs v => exact ceq_s (c := .f) ht hd ⟨ps, rs, v, rfl⟩ hx hy h

theorem cP_s (ht : TyOk P ty) (he : EqT P ty) {op : Op} {g : Pu} (h : cP ty live cx len op = some g) : PuS P live cx len op g := by
  unfold cP cP_move cP_pick cP_build cP_nilCheck cP_binOp cP_unOp cP_convert cP_makeFunc cP_slice cP_fieldAddr cP_field cP_indexAddr cP_index cP_extract cP_call at h
  split at h
  · -- move
    split at h
    · rename_i hx; cases h; exact (mov_s hx).1
    · cases h
  · split at h
    · rename_i hx; cases h; exact (mov_s hx).2
    · cases h
  · split at h
    · rename_i h1 h2 h3; cases h; exact pick_s h1 h2 h3
    · cases h
  · split at h
    · rename_i h1 h2 h3; cases h; exact build_s ht h1 h3
    · cases h
  · split at h
    · rename_i hx; cases h; exact nilck_s hx
    · cases h
  · split at h
    · rename_i h1 h2; exact cbin_s ht he h1 h2 h
    · cases h
  · split at h
    · rename_i hx; cases h; exact un_s hx
    · cases h
  · split at h
    · rename_i h1 h2 h3; cases h; exact conv_s ht h1 h2 h3
    · rename_i h1 h2 h3; cases h; exact sid_s ht h1 h2 h3
    · cases h
  · split at h
    · rename_i h1
      split at h
      · rename_i h2; cases h; exact mkf_s h1 h2
      · cases h
    · cases h
  · split at h
    · cases h
    · rename_i mx' hno hd hx hlo hhi hmx
      split at h
      · rename_i hs
        cases h
        refine slSl_s ht hx hlo hhi hmx (fun hn => ?_) hd hs
        subst hn
        cases hhi
        cases mx' with
        | none => exact cot_none hmx rfl
        | some q => exact (hno q rfl rfl).elim
      · cases h
    · rename_i mx' hno hd hx hlo hhi hmx
      split at h
      · rename_i hs hm1
        cases h
        refine slArr_s ht hx hlo hhi hmx (fun hn => ?_) hd hs (Nat.le_of_ble_eq_true hm1)
        subst hn
        cases hhi
        cases mx' with
        | none => exact cot_none hmx rfl
        | some q => exact (hno q rfl rfl).elim
      · cases h
    · rename_i hno _ _ _ hd hx hlo hhi hmx
      cases h
      have hmn := cot_none hmx rfl
      subst hmn
      exact slStr_s ht hx hlo hhi hd
    · cases h
  · split at h
    · rename_i hd hx
      split at h
      · rename_i hf
        split at h
        · rename_i hs; cases h; exact fad_s ht hx hd hf hs
        · cases h
      · cases h
    · cases h
  · split at h
    · rename_i hd hx
      split at h
      · rename_i hf
        split at h
        · rename_i h1 h2; cases h; exact fld_s ht hx hd hf h1 h2
        · cases h
      · cases h
    · cases h
  · split at h
    · rename_i hd hx hi
      split at h
      · rename_i hs; cases h; exact iadArr_s ht hx hi hd hs
      · cases h
    · rename_i hd hx hi
      split at h
      · rename_i hs; cases h; exact iadSl_s ht hx hi hd hs
      · cases h
    · cases h
  · split at h
    · rename_i hd hx hi
      split at h
      · rename_i h1 h2; cases h; exact idxArr_s ht hx hi hd h1 h2
      · cases h
    · rename_i hd hx hi; cases h; exact idxStr_s ht hx hi hd
    · cases h
  · split at h
    · rename_i hx; cases h; exact ext_s hx
    · cases h
  · split at h
    · rename_i hc
      split at h
      · rename_i h1 h2
        split at h
        · rename_i hd hx; cases h; exact (len_s ht hc h1 h2 hx).1 _ hd
        · rename_i hd hx; cases h; exact (len_s ht hc h1 h2 hx).2.1 hd
        · rename_i hd hx; cases h; exact (len_s ht hc h1 h2 hx).2.2 _ _ hd
        · cases h
      · rename_i h1 h2
        split at h
        · rename_i hd hx hy; cases h; exact mm_s ht (mx := true) hc h2 hx hy
        · rename_i hd hx hy; cases h; exact mm_s ht (mx := false) hc h2 hx hy
        · cases h
      · cases h
    · cases h
  · cases h
end
end Go.Proofs.YtccbdaffjkdpgaaGreatDoor.Vw
namespace Go.Proofs.YtccbdaffjkdpgaaGreatDoor.Vw

section
variable [Val] (P : Program) (live : List Nat) (cx : Cx) (len : Nat)
/-- an operation that leaves a value which it reads in memory -/
def LdS (o : Op) (g : Ld) : Prop := ∀ L f h k res, g L f h k = some res → ∃ v, k v = some res ∧
  ∀ (r : Ren) (n : Nat) (a : Act) (w : World), EnvR live cx len L f n r a → Rep P r h.at n w → wf n r v ∧ ∀ (op : Oper), op.op = o → (execOp a.eval op).run P w = .ok (.value (ren r v)) w
/-- an operation that makes one block, or leaves a value and what stands as it is -/
def AlS (o : Op) (g : Al) : Prop := ∀ L f k kv res, g L f k kv = some res →
  (∃ x mk, k x mk = some res ∧ x.live ∧ ∀ (r : Ren) (n : Nat) (a : Act) (w : World), EnvR live cx len L f n r a → ∃ (obj : Obj) (w' : World), Out w w' ∧ w'.heap = w.heap.push obj ∧ BlkRep P (r.set n w.heap.size 0) (n + 1) n x w' ∧ wf (n + 1) (r.set n w.heap.size 0) (mk n) ∧
    ∀ (op : Oper), op.op = o → (execOp a.eval op).run P w = .ok (.value (ren (r.set n w.heap.size 0) (mk n))) w') ∨
  (∃ v, kv v = some res ∧ ∀ (r : Ren) (n : Nat) (a : Act) (w : World), EnvR live cx len L f n r a → wf n r v ∧ ∃ w' : World, Still n r w w' ∧
    ∀ (op : Oper), op.op = o → (execOp a.eval op).run P w = .ok (.value (ren r v)) w')
end

section
variable [Val] {P : Program} {ty : Ty} {live : List Nat} {cx : Cx} {len : Nat} {res : Value × H × Nat}

theorem ld1_s (ht : TyOk P ty) {t : TypeId} {x : Operand} {x' : Opd} (hg : tagg ty t = some false) (hx : copd live cx len x = some x') : LdS P live cx len (.load t x) (ld1L x') := fun L f h k res hh => by
  obtain ⟨v, h1, h2⟩ := ev_EvV hh
  obtain ⟨p, rfl, h3⟩ := asPtr_some h2
  obtain ⟨hsp, v, hc, h4⟩ := load1_some h3
  refine ⟨v, h4, fun r n a w he hr => ?_⟩
  obtain ⟨w1, e1⟩ := copd_eval hx h1 he
  obtain ⟨g1, g2⟩ := hc.rep hr
  have hv := g1 v (by simp)
  refine ⟨wf_of_wf0 hv, fun op ho => ?_⟩
  simp only [execOp, ho, e1, ptr_eval]
  refine run_v ?_
  unfold Instr.loadAt loadVar
  simp only [bind, Sem.run_bind', Instr.sureAddr, pure, Sem.run, Result.andThen_ok, run_agg ht hg, Bool.false_eq_true, if_false]
  have hcell := g2 0 v rfl
  have hcell' : w.cell? (ra r p) = some (ren0 r v) := hcell
  rw [run_load, hcell', ren_of_wf0 hv]
theorem ld_s (ht : TyOk P ty) {t : TypeId} {x : Operand} {x' : Opd} {m : Nat} (hg : tagg ty t = some true) (hs : tsize ty t = some m) (hx : copd live cx len x = some x') : LdS P live cx len (.load t x) (ldL m x') := fun L f h k res hh => by
  obtain ⟨v, h1, h2⟩ := ev_EvV hh
  obtain ⟨p, rfl, h3⟩ := asPtr_some h2
  obtain ⟨hsp, l, hl, hc, h4⟩ := loadK_some h3
  refine ⟨_, h4, fun r n a w he hr => ?_⟩
  obtain ⟨w1, e1⟩ := copd_eval hx h1 he
  obtain ⟨g1, g2⟩ := hc.rep hr
  obtain ⟨w2, e2⟩ := agg_s g1
  refine ⟨w2, fun op ho => ?_⟩
  simp only [execOp, ho, e1, ptr_eval]
  refine run_v ?_
  unfold Instr.loadAt loadVar
  simp only [bind, Sem.run_bind', Instr.sureAddr, pure, Sem.run, Result.andThen_ok, run_agg ht hg, if_true, run_size ht hs]
  have := hc.run hr
  rw [hl] at this
  rw [this, e2]
  rfl

omit [Val] in
theorem bytesOf_some : ∀ {l : List Value} {b : List UInt8}, bytesOf l = some b → ∃ ns : List Int, l = ns.map (Value.int .u8) ∧ b = ns.map (fun n => UInt8.ofNat n.toNat) ∧ ∀ n ∈ ns, Plain n
  | [], b, h => by cases h; exact ⟨[], rfl, rfl, fun n h => by cases h⟩
  | v :: l, b, h => by
    unfold bytesOf at h
    split at h
    · rename_i n
      cases hn : Nat.ble n 255 with
      | false => simp only [hn] at h; cases h
      | true =>
        simp only [hn] at h
        cases hq : bytesOf l with
        | none => simp only [hq] at h; cases h
        | some q =>
          simp only [hq] at h
          cases h
          obtain ⟨ns, h1, h2, h3⟩ := bytesOf_some hq
          refine ⟨Int.ofNat n :: ns, by rw [h1]; rfl, by rw [h2]; rfl, fun m hm => ?_⟩
          rcases List.mem_cons.1 hm with rfl | hm
          · exact .nat (Nat.le_trans (Nat.le_of_ble_eq_true hn) (by decide))
          · exact h3 m hm
    · cases h
omit [Val] in
theorem fold_push : ∀ (ns : List Int) (s : ByteArray), ns.foldl (fun r n => r.push (UInt8.ofNat n.toNat)) s = ⟨⟨s.data.toList ++ ns.map (fun n => UInt8.ofNat n.toNat)⟩⟩
  | [], s => by simp
  | n :: ns, s => by
    rw [List.foldl_cons, fold_push ns]
    congr 2
    simp [ByteArray.push]
theorem b2s_s (ht : TyOk P ty) {s d e : TypeId} {x : Operand} {x' : Opd} (hs : und ty s = some (.slice e)) (hd : und ty d = some .string) (he : und ty e = some (.int .u8)) (hx : copd live cx len x = some x') : LdS P live cx len (.convert s d x) (b2sL x') := fun L f h k res hh => by
  obtain ⟨v, h1, h2⟩ := ev_EvV hh
  obtain ⟨p, l, c, rfl, h3⟩ := asSl_some h2
  have conv : ∀ (u : Value) (w : World), (∃ a l c, u = .slice a l c) → (convert s d u).run P w = (Conv.bytesToString u).run P w := fun u w hu => by
    obtain ⟨a, l, c, rfl⟩ := hu
    unfold convert
    simp only [bind, Sem.run_bind', run_und ht hs, run_und ht hd, Result.andThen_ok, run_und ht he]
  cases p with
  | none =>
    refine ⟨_, h3, fun r n a w henv hr => ⟨trivial, fun op ho => ?_⟩⟩
    obtain ⟨_, e1⟩ := copd_eval hx h1 henv
    simp only [execOp, ho, e1, show ren r (.slice none l c) = .slice none l c from rfl]
    refine run_v ?_
    rw [conv _ _ ⟨_, _, _, rfl⟩]
    rfl
  | some p =>
    obtain ⟨hsp, cs, hl, hc, h4⟩ := loadK_some h3
    obtain ⟨b, hb, h5⟩ := optK h4
    obtain ⟨ns, g1, g2, g3⟩ := bytesOf_some hb
    refine ⟨_, h5, fun r n a w henv hr => ⟨trivial, fun op ho => ?_⟩⟩
    obtain ⟨_, e1⟩ := copd_eval hx h1 henv
    simp only [execOp, ho, e1]
    rw [sl_eval hsp]
    refine run_v ?_
    rw [conv _ _ ⟨_, _, _, rfl⟩]
    have hcs : cs.map (ren0 r) = ns.map (Value.int .u8) := by
      rw [g1, List.map_map]
      exact List.map_congr_left fun m hm => congrArg (Value.int .u8) (g3 m hm).vI
    have hrun := hc.run hr
    rw [hl, hcs] at hrun
    rw [run_bytesToString w (ra r p) l _ ns hrun, fold_push, g2]
    rfl

theorem okV_s {n : Nat} {r : Ren} {ok : Bool} {v : Value} {b : Bool} (h : wf0 n r v) (hv : ren r v = v) : wf n r (okV ok v b) ∧ ren r (okV ok v b) = if ok then .tuple #[v, .bool b] else v := by
  cases ok with
  | false => exact ⟨wf_of_wf0 h, hv⟩
  | true =>
    have h1 : wf1 n r v := by cases v <;> first | exact h | exact h.elim
    have h2 : ren1 r v = v := by cases v <;> first | exact hv | exact h.elim
    refine ⟨?_, ?_⟩
    · show ∀ x ∈ (#[v, Value.bool b] : Array Value).toList, wf1 n r x
      intro x hx
      simp at hx
      rcases hx with rfl | rfl
      · exact h1
      · trivial
    · show Value.tuple (#[v, Value.bool b].map (ren1 r)) = _
      simp [h2]
      rfl
theorem look_s (ht : TyOk P ty) (he' : EqT P ty) {t kt e : TypeId} {x i : Operand} {x' i' : Opd} {m : Nat} {ok : Bool} {z : Value} {inf : TypeInfo} (hd : und ty t = some (.map kt e)) (hk : eqOf ty kt = some m) (hi : info? ty e = some inf) (hz : inf.zero = some z) (hc : constOk z = true)
    (hx : copd live cx len x = some x') (hix : copd live cx len i = some i') : LdS P live cx len (.lookup t x i ok) (lookM ok z m x' i') := fun L f h k res hh => by
  obtain ⟨vi, h1, h2⟩ := ev_EvV hh
  obtain ⟨vx, h3, h4⟩ := ev_EvV h2
  obtain ⟨cs, rfl, h5⟩ := asAgg_some h4
  obtain ⟨g1, h6⟩ := boolK' h5
  have hl : cs.length = m := Nat.eq_of_beq_eq_true g1
  have key : k (okV ok z false) = some res ∧ ((vx = .map none) ∨ ∃ b, vx = .map (some b) ∧ h.at b = some .map0) := by
    cases vx with
    | map b => cases b with
      | none => exact ⟨h6, .inl rfl⟩
      | some b =>
        have h7 : h.getK b (fun b => match b with | .map0 => k (okV ok z false) | _ => none) none = some res := h6
        rw [Tr.getK_eq] at h7
        cases hb : h.at b with
        | none => rw [hb] at h7; cases h7
        | some blk =>
          rw [hb] at h7
          cases blk with
          | map0 => exact ⟨h7, .inr ⟨b, rfl, hb⟩⟩
          | dead => cases h7
          | row _ _ _ _ _ => cases h7
    | _ => cases h6
  obtain ⟨h7, h8⟩ := key
  refine ⟨_, h7, fun r n a w he hr => ?_⟩
  obtain ⟨_, e1⟩ := copd_eval hix h1 he
  obtain ⟨_, e2⟩ := copd_eval hx h3 he
  obtain ⟨c1, c2, _⟩ := constOk_wf hc n r
  obtain ⟨w1, w2⟩ := okV_s (ok := ok) (b := false) c1 c2
  refine ⟨w1, fun op ho => ?_⟩
  simp only [execOp, ho, e1, e2, agg_eval]
  refine run_v ?_
  have hkey := (he' kt m hk).key
  have hzero : (zeroValue e).run P w = .ok z w := by
    have := ht.info e inf hi
    simp [zeroValue, typeInfo, this, hz]
  rw [w2]
  unfold Instr.lookup
  have hu : ∃ d, P.underlying kt = some d := by
    cases hu : P.underlying kt with
    | some d => exact ⟨d, rfl⟩
    | none =>
      have := hkey true cs hl default
      exfalso
      rw [show (10000 : Nat) = 9999 + 1 from rfl] at this
      generalize 9999 = dd at this
      unfold Instr.checkKey at this
      simp [underlying, hu] at this
  obtain ⟨d, hu⟩ := hu
  have hfin : ∀ w, (Instr.findKey kt (.agg (cs.map (ren0 r)).toArray) []).run P w = .ok none w := fun w => by
    unfold Instr.findKey
    simp only [bind, Sem.run_bind', run_underlying hu, Result.andThen_ok, Instr.findNow]
    rfl
  have hck : ∀ w, (Instr.checkKey true 10000 kt (.agg (cs.map (ren0 r)).toArray)).run P w = .ok () w := fun w => hkey true _ (by simpa using hl) w
  rcases h8 with rfl | ⟨b, rfl, hb⟩
  · simp only [bind, Sem.run_bind', run_und ht hd, Result.andThen_ok, show ren r (.map none) = .map none from rfl, pure, Sem.run, show (#[] : Array MapEntry).isEmpty = true from rfl, hck, hfin, hzero]
  · obtain ⟨clk, hm⟩ := hr.blk b _ hb
    have hg : (getObj (r.blk b)).run P w = .ok (.map #[] clk) w := by simp [getObj, Sem.run, hm]
    simp only [bind, Sem.run_bind', run_und ht hd, Result.andThen_ok, show ren r (.map (some b)) = .map (some (r.blk b)) from rfl, hg, pure, Sem.run, show (#[] : Array MapEntry).isEmpty = true from rfl, hck, hfin, hzero]

theorem cL_s (ht : TyOk P ty) (he : EqT P ty) {op : Op} {g : Ld} (h : cL ty live cx len op = some g) : LdS P live cx len op g := by
  unfold cL cL_load cL_convert cL_lookup at h
  split at h
  · split at h
    · rename_i h1 h2 h3; cases h; exact ld_s ht h1 h2 h3
    · rename_i h1 h2 h3; cases h; exact ld1_s ht h1 h3
    · cases h
  · split at h
    · rename_i hs hd hx
      split at h
      · rename_i he; cases h; exact b2s_s ht hs hd he hx
      · cases h
    · cases h
  · split at h
    · rename_i hd hx hi
      split at h
      · rename_i h1 h2
        split at h
        · rename_i hz
          split at h
          · rename_i hc; cases h; exact look_s ht he hd h1 h2 hz hc hx hi
          · cases h
        · cases h
      · cases h
    · cases h
  · cases h

/-! blocks -/
omit [Val] in
theorem ofL_sz (l : List Value) : Sz (ofL l) l.length ∧ ∀ j, j < l.length → (ofL l).at j = l[j]? := by
  obtain ⟨h1, h2⟩ := Sz.putL l Sz.e 0 (Nat.le_refl 0)
  refine ⟨by simpa [ofL] using h1, fun j hj => ?_⟩
  show (Tr.putL .e 0 l).at j = _
  rw [h2, if_pos (by omega), Nat.sub_zero]
/-- A new row of known cells. -/
theorem new_row {e : TypeId} {l : List Value} {n : Nat} {r : Ren} {w : World} (h : ∀ x ∈ l, wf0 n r x) :
    BlkRep P (r.set n w.heap.size 0) (n + 1) n (.row e false l.length 0 (ofL l)) (w.alloc (.cells (l.map (ren0 r)).toArray e)) := by
  obtain ⟨s1, s2⟩ := ofL_sz l
  have hag : Ag n r (r.set n w.heap.size 0) := fun b hb => Ren.set_ne r (by omega)
  refine ⟨(l.map (ren0 r)).toArray, (0, 0), l.length, ?_, by simp, fun _ => by simp, (fun hf => by cases hf), .inl rfl, by omega, s1, fun i hi => ?_⟩
  · rw [Ren.set_blk]
    show (w.heap.push _)[w.heap.size]? = _
    rw [Array.getElem?_push_size]
  · refine ⟨l[i], by rw [Nat.zero_add, s2 i hi, List.getElem?_eq_getElem hi], (h _ (List.getElem_mem hi)).mono (Nat.le_succ _) hag, ?_⟩
    rw [ren0_ag hag (h _ (List.getElem_mem hi))]
    simp [hi]
end
end Go.Proofs.YtccbdaffjkdpgaaGreatDoor.Vw
