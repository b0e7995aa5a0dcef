/- The evaluator once more, in a form that the kernel runs fast: each piece of code is made into a closure once; what goes on is handed on. Recursors are written out: they cost the kernel least. -/
import Derived.Test.YtdgccipcandojaaGreatEvA
namespace Go.Ev

noncomputable section

section
universe u
variable {α : Type} {β : Type u}

/-- In a tree at a number. -/
def getX (t : Tr α) (n : Nat) (d : β) (k : α → β) : β :=
  Tr.rec (motive := fun _ => Nat → β) (fun _ => d)
    (fun _ v _ il ir n => Bool.rec
      (Bool.rec (ir (Nat.sub (Nat.div n 2) 1)) (il (Nat.div n 2)) (Nat.beq (Nat.mod n 2) 1))
      (Option.rec d k v) (Nat.beq n 0)) t n

/-- (so deep at most) -/
def setF' (f : Nat) : Tr α → Nat → α → (Tr α → β) → β :=
  Nat.rec (motive := fun _ => Tr α → Nat → α → (Tr α → β) → β) (fun t _ _ k => k t)
    (fun _ ih t n x k => Bool.rec
      (Bool.rec
        (Tr.rec (motive := fun _ => β) (ih .nil (Nat.sub (Nat.div n 2) 1) x (fun r => k (.node .nil none r)))
          (fun l v r _ _ => ih r (Nat.sub (Nat.div n 2) 1) x (fun r' => k (.node l v r'))) t)
        (Tr.rec (motive := fun _ => β) (ih .nil (Nat.div n 2) x (fun l => k (.node l none .nil)))
          (fun l v r _ _ => ih l (Nat.div n 2) x (fun l' => k (.node l' v r))) t)
        (Nat.beq (Nat.mod n 2) 1))
      (Tr.rec (motive := fun _ => β) (k (.node .nil (some x) .nil)) (fun l _ r _ _ => k (.node l (some x) r)) t)
      (Nat.beq n 0)) f

def setX (t : Tr α) (n : Nat) (x : α) (k : Tr α → β) : β := setF' (n + 1) t n x k

/-- A list into a tree from a number on. -/
def putX (l : List α) : Tr α → Nat → (Tr α → β) → β :=
  List.rec (motive := fun _ => Tr α → Nat → (Tr α → β) → β) (fun t _ k => k t)
    (fun x _ ih t n k => setX t n x (fun t' => ih t' (Nat.succ n) k)) l

/-- What stands at a digit; another thing there. -/
structure C16 (β : Type) where
  get : N16 β → (β → Bool) → Bool
  upd : N16 β → (β → (β → Bool) → Bool) → (N16 β → Bool) → Bool

def c16 (β : Type) (n : Nat) : C16 β :=
  match n with
  | 0 => ⟨fun t w => N16.rec (motive := fun _ => Bool) (fun a _ _ _ _ _ _ _ _ _ _ _ _ _ _ _ => w a) t, fun t u w => N16.rec (motive := fun _ => Bool) (fun a b c d e f g h i j k l m n o p => u a fun y => w ⟨y, b, c, d, e, f, g, h, i, j, k, l, m, n, o, p⟩) t⟩
  | 1 => ⟨fun t w => N16.rec (motive := fun _ => Bool) (fun _ b _ _ _ _ _ _ _ _ _ _ _ _ _ _ => w b) t, fun t u w => N16.rec (motive := fun _ => Bool) (fun a b c d e f g h i j k l m n o p => u b fun y => w ⟨a, y, c, d, e, f, g, h, i, j, k, l, m, n, o, p⟩) t⟩
  | 2 => ⟨fun t w => N16.rec (motive := fun _ => Bool) (fun _ _ c _ _ _ _ _ _ _ _ _ _ _ _ _ => w c) t, fun t u w => N16.rec (motive := fun _ => Bool) (fun a b c d e f g h i j k l m n o p => u c fun y => w ⟨a, b, y, d, e, f, g, h, i, j, k, l, m, n, o, p⟩) t⟩
  | 3 => ⟨fun t w => N16.rec (motive := fun _ => Bool) (fun _ _ _ d _ _ _ _ _ _ _ _ _ _ _ _ => w d) t, fun t u w => N16.rec (motive := fun _ => Bool) (fun a b c d e f g h i j k l m n o p => u d fun y => w ⟨a, b, c, y, e, f, g, h, i, j, k, l, m, n, o, p⟩) t⟩
  | 4 => ⟨fun t w => N16.rec (motive := fun _ => Bool) (fun _ _ _ _ e _ _ _ _ _ _ _ _ _ _ _ => w e) t, fun t u w => N16.rec (motive := fun _ => Bool) (fun a b c d e f g h i j k l m n o p => u e fun y => w ⟨a, b, c, d, y, f, g, h, i, j, k, l, m, n, o, p⟩) t⟩
  | 5 => ⟨fun t w => N16.rec (motive := fun _ => Bool) (fun _ _ _ _ _ f _ _ _ _ _ _ _ _ _ _ => w f) t, fun t u w => N16.rec (motive := fun _ => Bool) (fun a b c d e f g h i j k l m n o p => u f fun y => w ⟨a, b, c, d, e, y, g, h, i, j, k, l, m, n, o, p⟩) t⟩
  | 6 => ⟨fun t w => N16.rec (motive := fun _ => Bool) (fun _ _ _ _ _ _ g _ _ _ _ _ _ _ _ _ => w g) t, fun t u w => N16.rec (motive := fun _ => Bool) (fun a b c d e f g h i j k l m n o p => u g fun y => w ⟨a, b, c, d, e, f, y, h, i, j, k, l, m, n, o, p⟩) t⟩
  | 7 => ⟨fun t w => N16.rec (motive := fun _ => Bool) (fun _ _ _ _ _ _ _ h _ _ _ _ _ _ _ _ => w h) t, fun t u w => N16.rec (motive := fun _ => Bool) (fun a b c d e f g h i j k l m n o p => u h fun y => w ⟨a, b, c, d, e, f, g, y, i, j, k, l, m, n, o, p⟩) t⟩
  | 8 => ⟨fun t w => N16.rec (motive := fun _ => Bool) (fun _ _ _ _ _ _ _ _ i _ _ _ _ _ _ _ => w i) t, fun t u w => N16.rec (motive := fun _ => Bool) (fun a b c d e f g h i j k l m n o p => u i fun y => w ⟨a, b, c, d, e, f, g, h, y, j, k, l, m, n, o, p⟩) t⟩
  | 9 => ⟨fun t w => N16.rec (motive := fun _ => Bool) (fun _ _ _ _ _ _ _ _ _ j _ _ _ _ _ _ => w j) t, fun t u w => N16.rec (motive := fun _ => Bool) (fun a b c d e f g h i j k l m n o p => u j fun y => w ⟨a, b, c, d, e, f, g, h, i, y, k, l, m, n, o, p⟩) t⟩
  | 10 => ⟨fun t w => N16.rec (motive := fun _ => Bool) (fun _ _ _ _ _ _ _ _ _ _ k _ _ _ _ _ => w k) t, fun t u w => N16.rec (motive := fun _ => Bool) (fun a b c d e f g h i j k l m n o p => u k fun y => w ⟨a, b, c, d, e, f, g, h, i, j, y, l, m, n, o, p⟩) t⟩
  | 11 => ⟨fun t w => N16.rec (motive := fun _ => Bool) (fun _ _ _ _ _ _ _ _ _ _ _ l _ _ _ _ => w l) t, fun t u w => N16.rec (motive := fun _ => Bool) (fun a b c d e f g h i j k l m n o p => u l fun y => w ⟨a, b, c, d, e, f, g, h, i, j, k, y, m, n, o, p⟩) t⟩
  | 12 => ⟨fun t w => N16.rec (motive := fun _ => Bool) (fun _ _ _ _ _ _ _ _ _ _ _ _ m _ _ _ => w m) t, fun t u w => N16.rec (motive := fun _ => Bool) (fun a b c d e f g h i j k l m n o p => u m fun y => w ⟨a, b, c, d, e, f, g, h, i, j, k, l, y, n, o, p⟩) t⟩
  | 13 => ⟨fun t w => N16.rec (motive := fun _ => Bool) (fun _ _ _ _ _ _ _ _ _ _ _ _ _ n _ _ => w n) t, fun t u w => N16.rec (motive := fun _ => Bool) (fun a b c d e f g h i j k l m n o p => u n fun y => w ⟨a, b, c, d, e, f, g, h, i, j, k, l, m, y, o, p⟩) t⟩
  | 14 => ⟨fun t w => N16.rec (motive := fun _ => Bool) (fun _ _ _ _ _ _ _ _ _ _ _ _ _ _ o _ => w o) t, fun t u w => N16.rec (motive := fun _ => Bool) (fun a b c d e f g h i j k l m n o p => u o fun y => w ⟨a, b, c, d, e, f, g, h, i, j, k, l, m, n, y, p⟩) t⟩
  | _ => ⟨fun t w => N16.rec (motive := fun _ => Bool) (fun _ _ _ _ _ _ _ _ _ _ _ _ _ _ _ p => w p) t, fun t u w => N16.rec (motive := fun _ => Bool) (fun a b c d e f g h i j k l m n o p => u p fun y => w ⟨a, b, c, d, e, f, g, h, i, j, k, l, m, n, o, y⟩) t⟩

structure ClG where
  run : T2 TV → (TV → Bool) → Bool

structure ClS where
  run : T2 TV → TV → (T2 TV → Bool) → Bool

def mkG (x : C16 (N16 TV)) (y : C16 TV) : ClG := C16.rec (fun xg _ => C16.rec (fun yg _ => ⟨fun t k => xg t fun a => yg a k⟩) y) x
def mkS (x : C16 (N16 TV)) (y : C16 TV) : ClS := C16.rec (fun _ xu => C16.rec (fun _ yu => ⟨fun t v k => xu t (fun a k => yu a (fun _ k => k v) k) k⟩) y) x

def cG (n : Nat) : ClG := Bool.rec ⟨fun _ _ => false⟩ (mkG (c16 _ (n / 16)) (c16 _ (n % 16))) (Nat.blt n 256)
def cT (n : Nat) : ClS := mkS (c16 _ (n / 16)) (c16 _ (n % 16))

def someX (o : Option α) (k : α → Bool) : Bool := Option.rec false k o
end

/-! ## Values taken apart -/

def TV.avX (v : TV) (k : AV → Bool) : Bool := TV.rec (motive := fun _ => Bool) k (fun _ => false) v
def AV.svX (v : AV) (k : SV → Bool) : Bool := AV.rec (motive := fun _ => Bool) k (fun _ => false) v
def TV.svX (v : TV) (k : SV → Bool) : Bool := v.avX fun a => a.svX k

def SV.boolX (v : SV) (k : Bool → Bool) : Bool :=
  SV.rec (motive := fun _ => Bool) k (fun _ _ => false) (fun _ _ => false) (fun _ => false) false (fun _ _ => false) false (fun _ _ _ _ _ => false)
    (fun _ _ _ _ => false) (fun _ => false) false (fun _ => false) (fun _ _ _ => false) (fun _ => false) false false (fun _ => false) v

def SV.ptrX (v : SV) (k : Nat → Nat → Bool) : Bool :=
  SV.rec (motive := fun _ => Bool) (fun _ => false) (fun _ _ => false) (fun _ _ => false) (fun _ => false) false k false (fun _ _ _ _ _ => false)
    (fun _ _ _ _ => false) (fun _ => false) false (fun _ => false) (fun _ _ _ => false) (fun _ => false) false false (fun _ => false) v

def SV.intX (v : SV) (d : Bool) (k : IntKind → Int → Bool) : Bool :=
  SV.rec (motive := fun _ => Bool) (fun _ => d) k (fun _ _ => d) (fun _ => d) d (fun _ _ => d) d (fun _ _ _ _ _ => d)
    (fun _ _ _ _ => d) (fun _ => d) d (fun _ => d) (fun _ _ _ => d) (fun _ => d) d d (fun _ => d) v

def SV.sliceX (v : SV) (d : Bool) (k : Nat → Nat → Nat → Nat → Option Nat → Bool) : Bool :=
  SV.rec (motive := fun _ => Bool) (fun _ => d) (fun _ _ => d) (fun _ _ => d) (fun _ => d) d (fun _ _ => d) d k
    (fun _ _ _ _ => d) (fun _ => d) d (fun _ => d) (fun _ _ _ => d) (fun _ => d) d d (fun _ => d) v

def SV.funcX (v : SV) (k : Nat → List (Nat × Nat) → List (Nat × Nat) → Bool) (y : Nat → Bool) : Bool :=
  SV.rec (motive := fun _ => Bool) (fun _ => false) (fun _ _ => false) (fun _ _ => false) (fun _ => false) false (fun _ _ => false) false (fun _ _ _ _ _ => false)
    (fun _ _ _ _ => false) (fun _ => false) false (fun _ => false) k y false false (fun _ => false) v

def Blk.cellsX (b : Blk) (k : Nat → Ct SV → Nat → Bool → Nat → Nat → Bool) : Bool :=
  Blk.rec (motive := fun _ => Bool) k (fun _ _ => false) (fun _ _ => false) (fun _ => false) (fun _ => false) false (fun _ => false) b

def Int.natX (n : Int) (k : Nat → Bool) : Bool := Int.rec (motive := fun _ => Bool) k (fun _ => false) n

/-- A number, reckoned. -/
def natX (n : Nat) (k : Nat → Bool) : Bool := Nat.rec (motive := fun _ => Bool) (k 0) (fun m _ => k (Nat.succ m)) n

/-! ## Closures -/

abbrev KX := Ex → T2 TV → List Nat → St → Bool
abbrev RX := Code → Nat → Option Nat → T2 TV → List Nat → St → KX → Bool

/-- What stays the same in a frame. -/
structure Q where
  go : RX
  n : Nat
  rnd : Option Nat

structure Cl where
  run : Q → T2 TV → List Nat → St → KX → Bool

structure ClO where
  run : Q → T2 TV → List Nat → St → (T2 TV → St → Bool) → Bool

structure ClV where
  run : T2 TV → (TV → Bool) → Bool

structure ClF where
  run : RX → List AV → St → (TV → St → Bool) → Bool

def cVal (o : Option TV) : ClV := Option.rec ⟨fun _ _ => false⟩ (fun v => ⟨fun _ k => k v⟩) o

def cV (x : Operand) : ClV :=
  match x with
  | .tmp t => ClG.rec (fun r => ⟨r⟩) (cG t)
  | .const v => cVal (TV.ofVal v)
  | .global _ => ⟨fun _ _ => false⟩
  | .func g => ⟨fun _ k => k (.v (.s (.func g [] [])))⟩

def tvS (v : TV) (k : SV → Bool) : Bool := TV.rec (motive := fun _ => Bool) (fun a => AV.rec (motive := fun _ => Bool) k (fun _ => false) a) (fun _ => false) v

/-- With an operand that is a value of one cell; of some cells; or more of them. -/
def withS (x : Operand) (m : (T2 TV → (SV → Bool) → Bool) → ClO) : ClO :=
  ClV.rec (motive := fun _ => ClO) (fun g => m fun tr k => g tr fun v => TV.rec (motive := fun _ => Bool) (fun a => AV.rec (motive := fun _ => Bool) k (fun _ => false) a) (fun _ => false) v) (cV x)
def withA (x : Operand) (m : (T2 TV → (AV → Bool) → Bool) → ClO) : ClO :=
  ClV.rec (motive := fun _ => ClO) (fun g => m fun tr k => g tr fun v => TV.rec (motive := fun _ => Bool) k (fun _ => false) v) (cV x)
def withV (x : Operand) (m : (T2 TV → (TV → Bool) → Bool) → ClO) : ClO := ClV.rec (motive := fun _ => ClO) m (cV x)

structure ClA where
  run : T2 TV → (List AV → Bool) → Bool

def cAs (l : List Operand) : ClA :=
  List.rec (motive := fun _ => ClA) ⟨fun _ k => k []⟩
    (fun x _ ih => ClA.rec (motive := fun _ => ClA) (fun r => ClV.rec (motive := fun _ => ClA)
      (fun g => ⟨fun t k => g t fun v => TV.rec (motive := fun _ => Bool) (fun a => r t fun l => k (a :: l)) (fun _ => false) v⟩) (cV x)) ih) l

/-- Into a temporary. -/
structure ClP where
  run : Nat → T2 TV → TV → (T2 TV → Bool) → Bool

def cP (d : Option Nat) : ClP :=
  Option.rec ⟨fun _ tr _ k => k tr⟩ (fun d => ClS.rec (motive := fun _ => ClP) (fun r => ⟨fun n tr v k => Bool.rec false (r tr v k) (Nat.ble (Nat.succ d) n)⟩) (cT d)) d

def withP (d : Option Nat) (m : (Nat → T2 TV → TV → (T2 TV → Bool) → Bool) → ClO) : ClO := ClP.rec (motive := fun _ => ClO) m (cP d)

/-- Anything else: by the plain definition. -/
def cAny (C : Ctx) (o : Oper) : ClO :=
  withP o.dst fun put => ⟨fun q t ms s k => someX (opB C (fun _ _ _ => none) o.op ⟨t, q.n, ms, q.rnd⟩ s) fun p => Prod.rec (fun v s' => put q.n t v fun t' => k t' s') p⟩

def cPure (g : Fr → Option TV) (d : Option Nat) : ClO :=
  withP d fun put => ⟨fun q t ms s k => someX (g ⟨t, q.n, ms, q.rnd⟩) fun v => put q.n t v fun t' => k t' s⟩

def cRead (g : Fr → St → Option TV) (d : Option Nat) : ClO :=
  withP d fun put => ⟨fun q t ms s k => someX (g ⟨t, q.n, ms, q.rnd⟩ s) fun v => put q.n t v fun t' => k t' s⟩

def cMake (g : Fr → Option (Blk × Mk)) (d : Option Nat) : ClO :=
  withP d fun put => ⟨fun q t ms s k => someX (g ⟨t, q.n, ms, q.rnd⟩) fun p => St.rec (fun h nx => setX h nx p.1 fun h' => put q.n t (p.2.val nx) fun t' => k t' ⟨h', Nat.succ nx⟩) s⟩

def cDo (g : Fr → St → Option (TV × St)) (d : Option Nat) : ClO :=
  withP d fun put => ⟨fun q t ms s k => someX (g ⟨t, q.n, ms, q.rnd⟩ s) fun p => Prod.rec (fun v s' => put q.n t v fun t' => k t' s') p⟩

def heapX (s : St) (id : Nat) (k : Blk → Bool) : Bool := St.rec (fun h _ => getX h id false k) s

/-! ### Hot operations -/

def getC (c : Ct SV) (n : Nat) (k : SV → Bool) : Bool :=
  Ct.rec (motive := fun _ => Bool) (fun l => List.rec (motive := fun _ => Nat → Bool) (fun _ => false)
    (fun a _ ih i => Nat.rec (motive := fun _ => Bool) (k a) (fun j _ => ih j) i) l n) (fun t => getX t n false k) c

def setL (l : List SV) (n : Nat) (x : SV) : (List SV → Bool) → Bool :=
  List.rec (motive := fun _ => Nat → (List SV → Bool) → Bool) (fun _ _ => false)
    (fun a l ih n k => Nat.rec (motive := fun _ => Bool) (k (x :: l)) (fun m _ => ih m fun r => k (a :: r)) n) l n

def setC (c : Ct SV) (n : Nat) (x : SV) (k : Ct SV → Bool) : Bool :=
  Ct.rec (motive := fun _ => Bool) (fun l => setL l n x fun l' => k (.ls l')) (fun t => setX t n x fun t' => k (.tr t')) c

def cLoad1 (x : Operand) (d : Option Nat) : ClO :=
  withS x fun gx => withP d fun put =>
  ⟨fun q t _ s k => gx t fun a => a.ptrX fun id off => heapX s id fun b => b.cellsX fun n c _ _ _ _ =>
    Bool.rec false (getC c off fun v => put q.n t (.v (.s v)) fun t' => k t' s) (Nat.ble (Nat.succ off) n)⟩

def cStore1 (a x : Operand) (d : Option Nat) : ClO :=
  withS a fun ga => withS x fun gx => withP d fun put =>
  ⟨fun q t _ s k => ga t fun p => gx t fun v => p.ptrX fun id off => St.rec (fun h nx => getX h id false fun b => b.cellsX fun n c sz ex fz et =>
    Bool.rec false (Bool.rec false (setC c off v fun c' => setX h id (.cells n c' sz ex fz et) fun h' => put q.n t undefT fun t' => k t' ⟨h', nx⟩)
      (Nat.ble fz off)) (Nat.ble (Nat.succ off) n)) s⟩

def cMove (x : Operand) (d : Option Nat) : ClO :=
  withV x fun g => withP d fun put => ⟨fun q t _ s k => g t fun v => put q.n t v fun t' => k t' s⟩

def cPick (c a b : Operand) (d : Option Nat) : ClO :=
  withS c fun gc => withV a fun ga => withV b fun gb => withP d fun put =>
  ⟨fun q t _ s k => gc t fun v => v.boolX fun p => Bool.rec (gb t fun v => put q.n t v fun t' => k t' s) (ga t fun v => put q.n t v fun t' => k t' s) p⟩

def cNil (x : Operand) (d : Option Nat) : ClO :=
  withS x fun g => withP d fun put => ⟨fun q t _ s k => g t fun v => v.ptrX fun i o => put q.n t (.v (.s (.ptr i o))) fun t' => k t' s⟩

def cFieldAddr (x : Operand) (off' : Nat) (d : Option Nat) : ClO :=
  withS x fun g => withP d fun put => ⟨fun q t _ s k => g t fun v => v.ptrX fun i o => natX (Nat.add o off') fun o' => put q.n t (.v (.s (.ptr i o'))) fun t' => k t' s⟩

def cIndexAddr (x ix : Operand) (n : Nat) (d : Option Nat) : ClO :=
  withS ix fun gi => withS x fun gx => withP d fun put =>
  ⟨fun q t _ s k => gi t fun i => i.intX false fun _ i => Int.natX i fun i => gx t fun v => v.sliceX false fun id sz eo len _ =>
    Bool.rec false (Bool.rec false (natX (Nat.mul (Nat.add eo i) sz) fun o => put q.n t (.v (.s (.ptr id o))) fun t' => k t' s) (Nat.beq n sz)) (Nat.ble (Nat.succ i) len)⟩

def listX {α : Type} (l : List α) (i : Nat) : (α → Bool) → Bool :=
  List.rec (motive := fun _ => Nat → (α → Bool) → Bool) (fun _ _ => false)
    (fun a _ ih i k => Nat.rec (motive := fun _ => Bool) (k a) (fun j _ => ih j k) i) l i

def cExtract (x : Operand) (i : Nat) (d : Option Nat) : ClO :=
  withV x fun g => withP d fun put =>
  ⟨fun q t _ s k => g t fun v => TV.rec (motive := fun _ => Bool) (fun _ => false) (fun l => listX l i fun a => put q.n t (.v a) fun t' => k t' s) v⟩

/-- What of two numbers is asked that are 0 or more, of kind int (add, sub) or of one kind. -/
structure ClB where
  run : Nat → Nat → Bool → (SV → Bool) → Bool

def fastB (op : BinOp) : Option (Bool × ClB) :=
  match op with
  | .add => some (true, ⟨fun a b d k => Bool.rec d (natX (Nat.add a b) fun c => k (.int .i64 (.ofNat c))) (Nat.ble (Nat.add a b) 9223372036854775807)⟩)
  | .sub => some (true, ⟨fun a b d k => Bool.rec d (natX (Nat.sub a b) fun c => k (.int .i64 (.ofNat c))) (Bool.rec false (Nat.ble a 9223372036854775807) (Nat.ble b a))⟩)
  | .eql => some (false, ⟨fun a b _ k => k (.bool (Nat.beq a b))⟩)
  | .neq => some (false, ⟨fun a b _ k => k (.bool (Bool.rec true false (Nat.beq a b)))⟩)
  | .lss => some (false, ⟨fun a b _ k => k (.bool (Nat.ble (Nat.succ a) b))⟩)
  | .leq => some (false, ⟨fun a b _ k => k (.bool (Nat.ble a b))⟩)
  | .gtr => some (false, ⟨fun a b _ k => k (.bool (Nat.ble (Nat.succ b) a))⟩)
  | .geq => some (false, ⟨fun a b _ k => k (.bool (Nat.ble b a))⟩)
  | _ => none

def kindN (k : IntKind) : Nat := IntKind.rec (motive := fun _ => Nat) 0 1 2 3 4 5 6 7 k

/-- Two numbers: of one kind (int, if so asked), 0 or more: handed on; else 'd'. -/
def twoX (int : Bool) (a b : SV) (d : Bool) (k : Nat → Nat → Bool) : Bool :=
  a.intX d fun ka na => b.intX d fun kb nb =>
    Bool.rec d (Int.rec (motive := fun _ => Bool) (fun m => Int.rec (motive := fun _ => Bool) (fun n => k m n) (fun _ => d) nb) (fun _ => d) na)
      (and (Nat.beq (kindN ka) (kindN kb)) (Bool.rec true (Nat.beq (kindN ka) 3) int))

def cBin (C : Ctx) (op : BinOp) (ty : Nat) (x y : Operand) (d : Option Nat) : ClO :=
  withA x fun gx => withA y fun gy => withP d fun put =>
  Option.rec (motive := fun _ => ClO)
    ⟨fun q t _ s k => gx t fun a => gy t fun b => someX (binB C op ty a b) fun r => put q.n t (.v (.s r)) fun t' => k t' s⟩
    (fun fb => Prod.rec (motive := fun _ => ClO) (fun int fb => ClB.rec (motive := fun _ => ClO) (fun run =>
      ⟨fun q t _ s k => gx t fun a => gy t fun b =>
      AV.rec (motive := fun _ => Bool) (fun a' => AV.rec (motive := fun _ => Bool)
        (fun b' => twoX int a' b' (someX (binB C op ty (.s a') (.s b')) fun r => put q.n t (.v (.s r)) fun t' => k t' s)
          fun m n => run m n (someX (binB C op ty (.s a') (.s b')) fun r => put q.n t (.v (.s r)) fun t' => k t' s) fun r => put q.n t (.v (.s r)) fun t' => k t' s)
        (fun bs => someX (binB C op ty (.s a') (.agg bs)) fun r => put q.n t (.v (.s r)) fun t' => k t' s) b)
        (fun as => someX (binB C op ty (.agg as) b) fun r => put q.n t (.v (.s r)) fun t' => k t' s) a⟩) fb) fb) (fastB op)

/-! ### Calls -/

structure ClR where
  run : T2 TV → Nat → St → (List AV → Bool) → Bool

def cRes (C : Ctx) (l : List ResultVar) : ClR :=
  match l with
  | [] => ⟨fun _ _ _ k => k []⟩
  | [.tmp a] => ClG.rec (fun g => ⟨fun t _ _ k => g t fun v => TV.rec (motive := fun _ => Bool) (fun x => k [x]) (fun _ => false) v⟩) (cG a)
  | l => ⟨fun t n s k => someX (resultsB ⟨t, n, [], none⟩ C s l) k⟩

def argsX (l : List AV) : T2 TV → Nat → (T2 TV → Bool) → Bool :=
  List.rec (motive := fun _ => T2 TV → Nat → (T2 TV → Bool) → Bool) (fun t _ k => k t) (fun x _ ih t n k => natX n fun n => (cT n).run t (.v x) fun t' => ih t' (Nat.succ n) k) l

def tvX (l : List AV) (k : TV → Bool) : Bool :=
  List.rec (motive := fun _ => Bool) (k (.tup [])) (fun a r _ => List.rec (motive := fun _ => Bool) (k (.v a)) (fun b r _ => k (.tup (a :: b :: r))) r) l

def finishX (run : T2 TV → Nat → St → (List AV → Bool) → Bool) (n : Nat) (k : TV → St → Bool) (t : T2 TV) (ms : List Nat) (s : St) : Bool :=
  List.rec (motive := fun _ => Bool) (run t n s fun l => tvX l fun v => k v s) (fun m ms _ => someX (takeMarks s (m :: ms)) fun s' => run t n s' fun l => tvX l fun v => k v s') ms

def maxX (a b : Nat) (k : Nat → Bool) : Bool := Bool.rec (natX a k) (natX b k) (Nat.ble a b)

def cBody (ntmps : Nat) (body : Code) (r : ClR) : ClF :=
  ClR.rec (motive := fun _ => ClF) (fun run =>
    ⟨fun go args s k => argsX args T2.new 0 fun t => maxX (lenR args) ntmps fun n => Bool.rec false
      (go body n none t [] s fun ex t ms s => Ex.rec (motive := fun _ => Bool) (finishX run n k t ms s) (fun _ => false) (finishX run n k t ms s) ex) (Nat.ble n 256)⟩) r

def cFn (C : Ctx) (g : Nat) : ClF :=
  match C.fns g with
  | some fn => match fn.body with
    | some body => match C.stub.get g with
      | some v => ⟨fun _ args s k => Bool.rec false (k (.v (.s v)) s) (Nat.beq (lenR args) 0)⟩
      | none => cBody fn.ntmps body (cRes C fn.results.toList)
    | none => match C.ext.get g with
      | some e => ⟨fun _ args s k => someX (externB C s e fn args) fun p => Prod.rec (fun v s' => k (.v v) s') p⟩
      | none => ⟨fun _ _ _ _ => false⟩
  | none => ⟨fun _ _ _ _ => false⟩

def Blk.loopX (b : Blk) (k : ALoop → Bool) : Bool :=
  Blk.rec (motive := fun _ => Bool) (fun _ _ _ _ _ _ => false) (fun _ _ => false) (fun _ _ => false) k (fun _ => false) false (fun _ => false) b

def LS.readyX (l : LS) (k : Bool) : Bool := LS.rec (motive := fun _ => Bool) k false false false l

def St.putX (s : St) (id : Nat) (b : Blk) (k : St → Bool) : Bool := St.rec (fun h nx => setX h id b fun h' => k ⟨h', nx⟩) s

def paramsX (ps : List Nat) : List AV → T2 TV → (T2 TV → Bool) → Bool :=
  List.rec (motive := fun _ => List AV → T2 TV → (T2 TV → Bool) → Bool) (fun _ t k => k t)
    (fun p _ ih l t k => List.rec (motive := fun _ => Bool) (k t) (fun a l _ => (cT p).run t (.v a) fun t' => ih l t' k) l) ps

def ALoop.mapX (L : ALoop) (k : LS → Option Code → Nat → T2 TV → Nat → List Nat → Code → Code → Nat → Bool) : Bool :=
  ALoop.rec (motive := fun _ => Bool) k L

def roundX (go : RX) (l : Nat) (args : List AV) (s : St) (k : TV → St → Bool) : Bool :=
  heapX s l fun b => b.loopX fun L => L.mapX fun st _ _ lt ln ps assign body _ => st.readyX
    (Bool.rec false
      (paramsX ps args lt fun t => go assign ln (some l) t [] s fun ex t1 ms1 s1 => Ex.rec (motive := fun _ => Bool)
        (heapX s1 l fun b1 => b1.loopX fun L1 => L1.mapX fun st1 p1 f1 t1' n1 ps1 a1 bo1 d1 => st1.readyX
          (s1.putX l (.loop ⟨.busy, p1, f1, t1', n1, ps1, a1, bo1, d1⟩) fun s2 =>
            go body ln (some l) t1 ms1 s2 fun ex2 _ ms2 s3 => List.rec (motive := fun _ => Bool)
              (heapX s3 l fun b2 => b2.loopX fun L2 => L2.mapX fun _ _ f2 t2 n2 ps2 a2 bo2 d2 => Ex.rec (motive := fun _ => Bool)
                (s3.putX l (.loop ⟨.ready, none, f2, t2, n2, ps2, a2, bo2, d2⟩) fun s4 => k (.v (.s (.bool true))) s4)
                (fun i => s3.putX l (.loop ⟨.done, some (.exit i), f2, t2, n2, ps2, a2, bo2, d2⟩) fun s4 => k (.v (.s (.bool false))) s4)
                (s3.putX l (.loop ⟨.done, some .ret, f2, t2, n2, ps2, a2, bo2, d2⟩) fun s4 => k (.v (.s (.bool false))) s4) ex2)
              (fun _ _ _ => false) ms2))
        (fun _ => false) false ex)
      (and (Nat.beq (lenR args) (lenR ps)) (ps.all fun p => Nat.blt p ln)))

def ptrX (l : List (Nat × Nat)) : (List AV) → List AV :=
  List.rec (motive := fun _ => List AV → List AV) (fun r => r) (fun p _ ih r => .s (.ptr p.1 p.2) :: ih r) l

def appX (l r : List AV) : List AV := List.rec (motive := fun _ => List AV) r (fun a _ ih => a :: ih) l

def applyX (C : Ctx) (go : RX) (f : SV) (args : List AV) (s : St) (k : TV → St → Bool) : Bool :=
  f.funcX (fun g first caps => (cFn C g).run go (ptrX first (appX args (ptrX caps []))) s k) (fun l => roundX go l args s k)

def cCall (C : Ctx) (g : Operand) (args : List Operand) (d : Option Nat) : ClO :=
  match g with
  | .func g => ClA.rec (motive := fun _ => ClO) (fun as => withP d fun put => ⟨fun q t _ s k => as t fun l => (cFn C g).run q.go l s fun v s' => put q.n t v fun t' => k t' s'⟩) (cAs args)
  | g => withS g fun gg => ClA.rec (motive := fun _ => ClO) (fun as => withP d fun put => ⟨fun q t _ s k => gg t fun f => as t fun l => applyX C q.go f l s fun v s' => put q.n t v fun t' => k t' s'⟩) (cAs args)

def constA (x : Operand) : Option AV :=
  match x with
  | .const v => (TV.ofVal v).bind TV.av
  | _ => none

def constParts (l : List (Nat × Operand)) : Option (List (Nat × AV)) := eachR (fun p => (constA p.2).bind fun a => some (p.1, a)) l

def cMade (p : Option (Blk × Mk)) (d : Option Nat) : ClO :=
  Option.rec ⟨fun _ _ _ _ _ => false⟩ (fun p => Prod.rec (fun b m => withP d fun put => ⟨fun q t _ s k => St.rec (fun h nx => setX h nx b fun h' => put q.n t (m.val nx) fun t' => k t' ⟨h', Nat.succ nx⟩) s⟩) p) p

/-- One operation. -/
def cOp (C : Ctx) (o : Oper) : ClO :=
  match o.op with
  | .move x => cMove x o.dst
  | .assign x => cMove x o.dst
  | .pick c a b => cPick c a b o.dst
  | .nilCheck x => cNil x o.dst
  | .extract x i => cExtract x i o.dst
  | .binOp op t x y _ => cBin C op t x y o.dst
  | .unOp op _ x => cPure (fun f => pUn f op x) o.dst
  | .build t parts => cPure (fun f => pBuild C f t parts.toList) o.dst
  | .field t x i => cPure (fun f => pField C f t x i) o.dst
  | .index t x ix => cPure (fun f => pIndex C f t x ix) o.dst
  | .makeFunc (.func g) first caps => cPure (fun f => pFunc f g first.toList caps.toList) o.dst
  | .load t x => match C.agg t with
    | some false => cLoad1 x o.dst
    | _ => cRead (fun f s => lLoad C f s t x) o.dst
  | .store t a x => match C.agg t, C.size t with
    | some false, some 1 => cStore1 a x o.dst
    | _, _ => cDo (fun f s => eStore C f s t a x) o.dst
  | .fieldAddr t x i => match C.und t with
    | some (.struct fs) => match nthR fs.toList i with
      | some fd => match C.size fd.type with
        | some (_ + 1) => cFieldAddr x fd.offset o.dst
        | _ => cAny C o
      | none => cAny C o
    | _ => cAny C o
  | .indexAddr t x ix => match C.und t with
    | some (.slice e) => match C.size e with
      | some n => cIndexAddr x ix n o.dst
      | none => cAny C o
    | _ => cPure (fun f => pIndexAddr C f t x ix) o.dst
  | .slice t x lo hi mx => match kindOf C o.op with
    | .P => cPure (fun f => pSlice C f t x lo hi mx) o.dst
    | .L => cRead (fun f s => lSlice C f s t x lo hi mx) o.dst
    | _ => cAny C o
  | .convert a b x => match kindConv C a b with
    | .P => cPure (fun f => pConv C f a b x) o.dst
    | .L => cRead (fun f s => lConv C f s a b x) o.dst
    | .A => cMake (fun f => aConv C f a b x) o.dst
    | .E => cAny C o
  | .alloc e => cMade ((C.zero e).bind fun z => some (boxOf e z, .ptr)) o.dst
  | .box e x => cMake (fun f => (f.evA x).bind fun z => some (boxOf e z, .ptr)) o.dst
  | .buildSlice t len parts => match constParts parts.toList with
    | some ps => cMade (buildSliceB C t len ps) o.dst
    | none => cMake (fun f => (evParts f parts.toList).bind fun ps => buildSliceB C t len ps) o.dst
  | .makeSlice t l c => cMake (fun f => (f.evS l).bind fun l => (f.evS c).bind fun c => makeSliceB C t l c) o.dst
  | .mapUpdate t m k v => cDo (fun f s => eMap C f s t m k v) o.dst
  | .call c => match c.callee with
    | .value g => cCall C g c.args.toList o.dst
    | .builtin b => match kindCall C c with
      | .P => cPure (fun f => pCall C f b c.argTypes.toList c.args.toList) o.dst
      | .L => cRead (fun f s => lCall C f s b c.argTypes.toList c.args.toList) o.dst
      | .E => cDo (fun f s => (evSs f c.args.toList).bind fun args => one (builtinB C s b c.argTypes.toList args)) o.dst
      | .A => cAny C o
    | .invoke _ _ => cAny C o
  | _ => cAny C o

/-! ### Regions -/

def guardB (want : Bool) (w : SV) : Bool :=
  SV.rec (motive := fun _ => Bool) (fun b => Bool.rec (Bool.rec true false want) want b) (fun _ _ => false) (fun _ _ => false) (fun _ => false) false (fun _ _ => false) false (fun _ _ _ _ _ => false)
    (fun _ _ _ _ => false) (fun _ => false) false (fun _ => false) (fun _ _ _ => false) (fun _ => false) false false (fun _ => false) w

def SV.isOpq (w : SV) : Bool :=
  SV.rec (motive := fun _ => Bool) (fun _ => false) (fun _ _ => false) (fun _ _ => false) (fun _ => false) false (fun _ _ => false) false (fun _ _ _ _ _ => false)
    (fun _ _ _ _ => false) (fun _ => true) false (fun _ => false) (fun _ _ _ => false) (fun _ => false) false false (fun _ => false) w

def TV.boolX (v : TV) (k : Bool → Bool) : Bool :=
  TV.rec (motive := fun _ => Bool) (fun a => AV.rec (motive := fun _ => Bool) (fun v =>
    SV.rec (motive := fun _ => Bool) k (fun _ _ => k false) (fun _ _ => k false) (fun _ => k false) (k false) (fun _ _ => k false) (k false) (fun _ _ _ _ _ => k false)
    (fun _ _ _ _ => k false) (fun _ => k false) (k false) (fun _ => k false) (fun _ _ _ => k false) (fun _ => k false) (k false) (k false) (fun _ => k false) v) (fun _ => k false) a) (fun _ => k false) v

def cGuard (ops : List Oper) (o : Oper) (c : ClO) : ClO :=
  match o.guard with
  | none => c
  | some (j, want) => match nthR ops j with
    | some p => match p.dst with
      | some g => ClG.rec (motive := fun _ => ClO) (fun get => withP o.dst fun put => ClO.rec (motive := fun _ => ClO) (fun run =>
          ⟨fun q t ms s k => get t fun v =>
          TV.rec (motive := fun _ => Bool) (fun a => AV.rec (motive := fun _ => Bool) (fun w =>
            Bool.rec (Bool.rec (put q.n t undefT fun t' => k t' s) (run q t ms s k) (guardB want w)) false w.isOpq)
            (fun _ => put q.n t undefT fun t' => k t' s) a)
            (fun _ => put q.n t undefT fun t' => k t' s) v⟩) c) (cG g)
      | none => ⟨fun _ _ _ _ _ => false⟩
    | none => ⟨fun _ _ _ _ _ => false⟩

def cSeq (C : Ctx) (ops : List Oper) (l : List Oper) : ClO :=
  List.rec (motive := fun _ => ClO) ⟨fun _ t _ s k => k t s⟩ (fun o _ ih => ClO.rec (motive := fun _ => ClO) (fun run => ClO.rec (motive := fun _ => ClO)
    (fun rest => ⟨fun q t ms s k => run q t ms s fun t' s' => rest q t' ms s' k⟩) ih) (cGuard ops o (cOp C o))) l

structure ClH where
  run : Q → T2 TV → List Nat → St → Held → (T2 TV → St → Bool) → Bool

def cStep (C : Ctx) (ops : List Oper) (p : PS) (ih : ClH) : ClH :=
  ClH.rec (motive := fun _ => ClH) (fun rest =>
  match p.keep, p.hs with
  | false, [] => ClO.rec (motive := fun _ => ClH) (fun run => ⟨fun q t ms s held k => run q t ms s fun t' s' => rest q t' ms s' held k⟩) (cGuard ops p.r.o (cOp C p.r.o))
  | true, [] => ClP.rec (motive := fun _ => ClH) (fun put => ⟨fun q t ms s held k => someX (guarded ops ⟨t, q.n, ms, q.rnd⟩ p.r.o) fun g => Bool.rec
      (put q.n t undefT fun t' => rest q t' ms s held k)
      (someX (opB C (fun _ _ _ => none) p.r.o.op ⟨t, q.n, ms, q.rnd⟩ s) fun w => Prod.rec (fun v s' => put q.n t v fun t' => rest q t' ms s' ((p.r.i, ⟨t, q.n, ms, q.rnd⟩, v) :: held) k) w) g⟩) (cP p.r.o.dst)
  | _, hs => ClP.rec (motive := fun _ => ClH) (fun put => ClO.rec (motive := fun _ => ClH) (fun run => ⟨fun q t ms s held k => someX (guarded ops ⟨t, q.n, ms, q.rnd⟩ p.r.o) fun g => Bool.rec
      (put q.n t undefT fun t' => rest q t' ms s held k)
      (run q t ms s fun t' s' => Bool.rec false (rest q t' ms s' held k) (stillHeld C s' held hs)) g⟩) (cOp C p.r.o)) (cP p.r.o.dst)) ih

def cPlan (C : Ctx) (ops : List Oper) (l : List PS) : ClH :=
  List.rec (motive := fun _ => ClH) ⟨fun _ t _ s _ k => k t s⟩ (fun p _ ih => cStep C ops p ih) l

def cDraw (o : Option ClH) : ClO := Option.rec ⟨fun _ _ _ _ _ => false⟩ (fun h => ClH.rec (motive := fun _ => ClO) (fun run => ⟨fun q t ms s k => run q t ms s [] k⟩) h) o

def cReg (C : Ctx) (ops : List Oper) (draw : Bool) : ClO :=
  Bool.rec (cSeq C ops ops) (cDraw (Option.map (cPlan C ops) (planOf C ops))) draw

/-! ### Code -/

def rangeX (C : Ctx) (g : Operand) (params : List Nat) (assign body : Code) : Cl :=
  ClV.rec (motive := fun _ => Cl) (fun gg => ⟨fun q t ms s k => gg t fun v => tvS v fun f => Bool.rec false (
    (Option.rec (motive := fun _ => (Nat → List Nat → St → Bool) → Bool)
      (fun k => s.putX s.next (.deferred false) fun s' => k s.next (s.next :: ms) ⟨s'.h, Nat.succ s.next⟩)
      (fun l k => heapX s l fun b => b.loopX fun L => L.mapX fun _ _ _ _ _ _ _ _ d => k d ms s) q.rnd) fun d ms' s1 =>
    natX s1.next fun l => setX s1.h l (.loop ⟨.ready, none, 0, t, q.n, params, assign, body, d⟩) fun h2 =>
      applyX C q.go f [.s (.yield l)] ⟨h2, Nat.succ l⟩ fun _ s3 => heapX s3 l fun b => b.loopX fun L => L.mapX fun st p f2 t2 n2 ps2 a2 bo2 d2 => LS.rec (motive := fun _ => (Bool → Bool))
        (fun x => x) (fun _ => false) (fun x => x) (fun x => x) st
        (s3.putX l (.loop ⟨.exhausted, p, f2, t2, n2, ps2, a2, bo2, d2⟩) fun s4 =>
          match p with
          | none => k .normal t ms' s4
          | some .ret => k .ret t ms' s4
          | some (.exit i) => k (.exit i) t ms' s4
          | some _ => false)) (entersB C f)⟩) (cV g)

def comp (C : Ctx) : Code → Cl
  | .skip => ⟨fun _ t ms s k => k .normal t ms s⟩
  | .label _ => ⟨fun _ t ms s k => k .normal t ms s⟩
  | .region _ ops draw => ClO.rec (motive := fun _ => Cl) (fun run => ⟨fun q t ms s k => run q t ms s fun t' s' => k .normal t' ms s'⟩) (cReg C ops.toList draw)
  | .seq a b => ⟨fun q t ms s k => (comp C a).run q t ms s fun ex t' ms' s' => Ex.rec (motive := fun _ => Bool)
      ((comp C b).run q t' ms' s' k) (fun i => k (.exit i) t' ms' s') (k .ret t' ms' s') ex⟩
  | .cond c a b => ClV.rec (motive := fun _ => Cl) (fun gc => ⟨fun q t ms s k => gc t fun v => tvS v fun v => v.boolX fun p => Bool.rec ((comp C b).run q t ms s k) ((comp C a).run q t ms s k) p⟩) (cV c)
  | .block id b => ⟨fun q t ms s k => (comp C b).run q t ms s fun ex t' ms' s' => Ex.rec (motive := fun _ => Bool)
      (k .normal t' ms' s') (fun i => Bool.rec (k (.exit i) t' ms' s') (k .normal t' ms' s') (Nat.beq i id)) (k .ret t' ms' s') ex⟩
  | .loop b => ⟨fun q t ms s k => (comp C b).run q t ms s fun ex t' ms' s' => Ex.rec (motive := fun _ => Bool)
      (q.go (.loop b) q.n q.rnd t' ms' s' k) (fun i => k (.exit i) t' ms' s') (k .ret t' ms' s') ex⟩
  | .scope b => comp C b
  | .exit id => ⟨fun _ t ms s k => k (.exit id) t ms s⟩
  | .ret => ⟨fun _ t ms s k => k .ret t ms s⟩
  | .rangeFunc g params assign body => rangeX C g params.toList assign body
  | .goto _ => ⟨fun _ _ _ _ _ => false⟩
  | .refuse _ => ⟨fun _ _ _ _ _ => false⟩

def fexec (C : Ctx) (n : Nat) : RX :=
  Nat.rec (motive := fun _ => RX) (fun _ _ _ _ _ _ _ => false) (fun _ ih c n rnd t ms s k => (comp C c).run ⟨ih, n, rnd⟩ t ms s k) n

def saysTrueX (C : Ctx) (fuel g : Nat) : Bool :=
  (cFn C g).run (fexec C fuel) [] ⟨.nil, 0⟩ fun v _ => v.svX fun x => x.boolX fun b => b

def okX (C : Ctx) (fuel g : Nat) (args : List AV) : Bool :=
  (cFn C g).run (fexec C fuel) args ⟨.nil, 0⟩ fun _ _ => true

end

end Go.Ev

