/- The abstract machine: its operations. Conditions: none. -/
import Derived.Test.YtacpnpdggbfkgaaDoorBvmDefs
set_option linter.unusedVariables false
namespace Go.Bvm
noncomputable section

/-- which kind of value it is, and what it holds -/
def isW (v : V) : Bool := V.rec (motive := fun _ => Bool) (fun _ => true) (fun _ => false) (fun _ => false) (fun _ _ => false) (fun _ _ _ _ => false) (fun _ _ _ _ _ => false) (fun _ _ _ _ _ => false) v
def wOf (v : V) : Nat := V.rec (motive := fun _ => Nat) (fun n => n) (fun _ => 0) (fun _ => 0) (fun _ _ => 0) (fun _ _ _ _ => 0) (fun _ _ _ _ _ => 0) (fun _ _ _ _ _ => 0) v
def isY (v : V) : Bool := V.rec (motive := fun _ => Bool) (fun _ => false) (fun _ => true) (fun _ => false) (fun _ _ => false) (fun _ _ _ _ => false) (fun _ _ _ _ _ => false) (fun _ _ _ _ _ => false) v
def yOf (v : V) : Nat := V.rec (motive := fun _ => Nat) (fun _ => 0) (fun n => n) (fun _ => 0) (fun _ _ => 0) (fun _ _ _ _ => 0) (fun _ _ _ _ _ => 0) (fun _ _ _ _ _ => 0) v
def isT (v : V) : Bool := V.rec (motive := fun _ => Bool) (fun _ => false) (fun _ => false) (fun _ => true) (fun _ _ => false) (fun _ _ _ _ => false) (fun _ _ _ _ _ => false) (fun _ _ _ _ _ => false) v
def tOf (v : V) : Bool := V.rec (motive := fun _ => Bool) (fun _ => false) (fun _ => false) (fun b => b) (fun _ _ => false) (fun _ _ _ _ => false) (fun _ _ _ _ _ => false) (fun _ _ _ _ _ => false) v
def isS (v : V) : Bool := V.rec (motive := fun _ => Bool) (fun _ => false) (fun _ => false) (fun _ => false) (fun _ _ => true) (fun _ _ _ _ => false) (fun _ _ _ _ _ => false) (fun _ _ _ _ _ => false) v
def sL (v : V) : Nat := V.rec (motive := fun _ => Nat) (fun _ => 0) (fun _ => 0) (fun _ => 0) (fun l _ => l) (fun _ _ _ _ => 0) (fun _ _ _ _ _ => 0) (fun _ _ _ _ _ => 0) v
def sN (v : V) : Nat := V.rec (motive := fun _ => Nat) (fun _ => 0) (fun _ => 0) (fun _ => 0) (fun _ n => n) (fun _ _ _ _ => 0) (fun _ _ _ _ _ => 0) (fun _ _ _ _ _ => 0) v
def isP (v : V) : Bool := V.rec (motive := fun _ => Bool) (fun _ => false) (fun _ => false) (fun _ => false) (fun _ _ => false) (fun _ _ _ _ => true) (fun _ _ _ _ _ => false) (fun _ _ _ _ _ => false) v
def pI (v : V) : Nat := V.rec (motive := fun _ => Nat) (fun _ => 0) (fun _ => 0) (fun _ => 0) (fun _ _ => 0) (fun a _ _ _ => a) (fun _ _ _ _ _ => 0) (fun _ _ _ _ _ => 0) v
def pO (v : V) : Nat := V.rec (motive := fun _ => Nat) (fun _ => 0) (fun _ => 0) (fun _ => 0) (fun _ _ => 0) (fun _ a _ _ => a) (fun _ _ _ _ _ => 0) (fun _ _ _ _ _ => 0) v
def pL (v : V) : Nat := V.rec (motive := fun _ => Nat) (fun _ => 0) (fun _ => 0) (fun _ => 0) (fun _ _ => 0) (fun _ _ a _ => a) (fun _ _ _ _ _ => 0) (fun _ _ _ _ _ => 0) v
def pV (v : V) : Nat := V.rec (motive := fun _ => Nat) (fun _ => 0) (fun _ => 0) (fun _ => 0) (fun _ _ => 0) (fun _ _ _ a => a) (fun _ _ _ _ _ => 0) (fun _ _ _ _ _ => 0) v
def isSl (v : V) : Bool := V.rec (motive := fun _ => Bool) (fun _ => false) (fun _ => false) (fun _ => false) (fun _ _ => false) (fun _ _ _ _ => false) (fun _ _ _ _ _ => true) (fun _ _ _ _ _ => false) v
def slI (v : V) : Nat := V.rec (motive := fun _ => Nat) (fun _ => 0) (fun _ => 0) (fun _ => 0) (fun _ _ => 0) (fun _ _ _ _ => 0) (fun a _ _ _ _ => a) (fun _ _ _ _ _ => 0) v
def slO (v : V) : Nat := V.rec (motive := fun _ => Nat) (fun _ => 0) (fun _ => 0) (fun _ => 0) (fun _ _ => 0) (fun _ _ _ _ => 0) (fun _ a _ _ _ => a) (fun _ _ _ _ _ => 0) v
def slL (v : V) : Nat := V.rec (motive := fun _ => Nat) (fun _ => 0) (fun _ => 0) (fun _ => 0) (fun _ _ => 0) (fun _ _ _ _ => 0) (fun _ _ a _ _ => a) (fun _ _ _ _ _ => 0) v
def slV (v : V) : Nat := V.rec (motive := fun _ => Nat) (fun _ => 0) (fun _ => 0) (fun _ => 0) (fun _ _ => 0) (fun _ _ _ _ => 0) (fun _ _ _ a _ => a) (fun _ _ _ _ _ => 0) v
def slE (v : V) : Nat := V.rec (motive := fun _ => Nat) (fun _ => 0) (fun _ => 0) (fun _ => 0) (fun _ _ => 0) (fun _ _ _ _ => 0) (fun _ _ _ _ a => a) (fun _ _ _ _ _ => 0) v
def tgAgg (g : Tag) : Bool := Tag.rec (motive := fun _ => Bool) (fun _ _ => false) false false false false false false true false false false (fun _ => false) (fun _ => false) (fun _ => false) false false false g
def tgTup (g : Tag) : Bool := Tag.rec (motive := fun _ => Bool) (fun _ _ => false) false false false false false false false true false false (fun _ => false) (fun _ => false) (fun _ => false) false false false g
def tgSlnil (g : Tag) : Bool := Tag.rec (motive := fun _ => Bool) (fun _ _ => false) false true false false false false false false false false (fun _ => false) (fun _ => false) (fun _ => false) false false false g
def tagOS (g : Tag) : Bool := Tag.rec (motive := fun _ => Bool) (fun _ _ => false) false false false false false false false false false false (fun _ => false) (fun _ => false) (fun _ => false) true false false g
def tagNN (g : Tag) : Bool := Tag.rec (motive := fun _ => Bool) (fun _ _ => false) false false false false false false false false false false (fun _ => false) (fun _ => false) (fun _ => false) false true false g
def tgFn (g : Tag) : Bool := Tag.rec (motive := fun _ => Bool) (fun _ _ => false) false false false false false false false false false false (fun _ => false) (fun _ => true) (fun _ => false) false false false g
def tgF (g : Tag) : Nat := Tag.rec (motive := fun _ => Nat) (fun _ _ => 0) 0 0 0 0 0 0 0 0 0 0 (fun _ => 0) (fun f => f) (fun _ => 0) 0 0 0 g
def tgInt (g : Tag) : Bool := Tag.rec (motive := fun _ => Bool) (fun _ _ => true) false false false false false false false false false false (fun _ => false) (fun _ => false) (fun _ => false) false false false g
def tgK (g : Tag) : IntKind := Tag.rec (motive := fun _ => IntKind) (fun k _ => k) .i64 .i64 .i64 .i64 .i64 .i64 .i64 .i64 .i64 .i64 (fun _ => .i64) (fun _ => .i64) (fun _ => .i64) .i64 .i64 .i64 g
def tgN (g : Tag) : Int := Tag.rec (motive := fun _ => Int) (fun _ n => n) 0 0 0 0 0 0 0 0 0 0 (fun _ => 0) (fun _ => 0) (fun _ => 0) 0 0 0 g
def vtgAgg (v : V) : Bool := V.rec (motive := fun _ => Bool) (fun _ => false) (fun _ => false) (fun _ => false) (fun _ _ => false) (fun _ _ _ _ => false) (fun _ _ _ _ _ => false) (fun g _ _ _ _ => tgAgg g) v
def vtgTup (v : V) : Bool := V.rec (motive := fun _ => Bool) (fun _ => false) (fun _ => false) (fun _ => false) (fun _ _ => false) (fun _ _ _ _ => false) (fun _ _ _ _ _ => false) (fun g _ _ _ _ => tgTup g) v
def vtgSlnil (v : V) : Bool := V.rec (motive := fun _ => Bool) (fun _ => false) (fun _ => false) (fun _ => false) (fun _ _ => false) (fun _ _ _ _ => false) (fun _ _ _ _ _ => false) (fun g _ _ _ _ => tgSlnil g) v
def vtagOS (v : V) : Bool := V.rec (motive := fun _ => Bool) (fun _ => false) (fun _ => false) (fun _ => false) (fun _ _ => false) (fun _ _ _ _ => false) (fun _ _ _ _ _ => false) (fun g _ _ _ _ => tagOS g) v
def vtagNN (v : V) : Bool := V.rec (motive := fun _ => Bool) (fun _ => false) (fun _ => false) (fun _ => false) (fun _ _ => false) (fun _ _ _ _ => false) (fun _ _ _ _ _ => false) (fun g _ _ _ _ => tagNN g) v
def vtgFn (v : V) : Bool := V.rec (motive := fun _ => Bool) (fun _ => false) (fun _ => false) (fun _ => false) (fun _ _ => false) (fun _ _ _ _ => false) (fun _ _ _ _ _ => false) (fun g _ _ _ _ => tgFn g) v
def vtgInt (v : V) : Bool := V.rec (motive := fun _ => Bool) (fun _ => false) (fun _ => false) (fun _ => false) (fun _ _ => false) (fun _ _ _ _ => false) (fun _ _ _ _ _ => false) (fun g _ _ _ _ => tgInt g) v
def xF (v : V) : Nat := V.rec (motive := fun _ => Nat) (fun _ => 0) (fun _ => 0) (fun _ => 0) (fun _ _ => 0) (fun _ _ _ _ => 0) (fun _ _ _ _ _ => 0) (fun g _ _ _ _ => tgF g) v
def xK (v : V) : IntKind := V.rec (motive := fun _ => IntKind) (fun _ => .i64) (fun _ => .i64) (fun _ => .i64) (fun _ _ => .i64) (fun _ _ _ _ => .i64) (fun _ _ _ _ _ => .i64) (fun g _ _ _ _ => tgK g) v
def xN (v : V) : Int := V.rec (motive := fun _ => Int) (fun _ => 0) (fun _ => 0) (fun _ => 0) (fun _ _ => 0) (fun _ _ _ _ => 0) (fun _ _ _ _ _ => 0) (fun g _ _ _ _ => tgN g) v
def xA (v : V) : V := V.rec (motive := fun _ => V) (fun _ => V.nil) (fun _ => V.nil) (fun _ => V.nil) (fun _ _ => V.nil) (fun _ _ _ _ => V.nil) (fun _ _ _ _ _ => V.nil) (fun _ a _ _ _ => a) v
def xB (v : V) : V := V.rec (motive := fun _ => V) (fun _ => V.nil) (fun _ => V.nil) (fun _ => V.nil) (fun _ _ => V.nil) (fun _ _ _ _ => V.nil) (fun _ _ _ _ _ => V.nil) (fun _ _ b _ _ => b) v

/-- eliminators: one kind of value wanted, else the run is given up -/
def onW (v : V) (k : Nat → Bool) : Bool := V.rec (motive := fun _ => Bool) k (fun _ => false) (fun _ => false) (fun _ _ => false) (fun _ _ _ _ => false) (fun _ _ _ _ _ => false) (fun _ _ _ _ _ => false) v
def onT (v : V) (k : Bool → Bool) : Bool := V.rec (motive := fun _ => Bool) (fun _ => false) (fun _ => false) k (fun _ _ => false) (fun _ _ _ _ => false) (fun _ _ _ _ _ => false) (fun _ _ _ _ _ => false) v
def onY (v : V) (k : Nat → Bool) : Bool := V.rec (motive := fun _ => Bool) (fun _ => false) k (fun _ => false) (fun _ _ => false) (fun _ _ _ _ => false) (fun _ _ _ _ _ => false) (fun _ _ _ _ _ => false) v
def onS (v : V) (k : Nat → Nat → Bool) : Bool := V.rec (motive := fun _ => Bool) (fun _ => false) (fun _ => false) (fun _ => false) k (fun _ _ _ _ => false) (fun _ _ _ _ _ => false) (fun _ _ _ _ _ => false) v
def onP (v : V) (k : Nat → Nat → Nat → Nat → Bool) : Bool := V.rec (motive := fun _ => Bool) (fun _ => false) (fun _ => false) (fun _ => false) (fun _ _ => false) k (fun _ _ _ _ _ => false) (fun _ _ _ _ _ => false) v

/-- a slice wanted: nil, or not -/
def onSl (v : V) (kn : Bool) (k : Nat → Nat → Nat → Nat → Nat → Bool) : Bool := V.rec (motive := fun _ => Bool) (fun _ => false) (fun _ => false) (fun _ => false) (fun _ _ => false) (fun _ _ _ _ => false) k (fun g _ _ _ _ => Tag.rec (motive := fun _ => Bool) (fun _ _ => false) false kn false false false false false false false false (fun _ => false) (fun _ => false) (fun _ => false) false false false g) v
def onAgg (v : V) (k : V → Bool) : Bool := V.rec (motive := fun _ => Bool) (fun _ => false) (fun _ => false) (fun _ => false) (fun _ _ => false) (fun _ _ _ _ => false) (fun _ _ _ _ _ => false) (fun g a b _ _ => Tag.rec (motive := fun _ => Bool) (fun _ _ => false) false false false false false false (k a) false false false (fun _ => false) (fun _ => false) (fun _ => false) false false false g) v
def onTup (v : V) (k : V → Bool) : Bool := V.rec (motive := fun _ => Bool) (fun _ => false) (fun _ => false) (fun _ => false) (fun _ _ => false) (fun _ _ _ _ => false) (fun _ _ _ _ _ => false) (fun g a b _ _ => Tag.rec (motive := fun _ => Bool) (fun _ _ => false) false false false false false false false (k a) false false (fun _ => false) (fun _ => false) (fun _ => false) false false false g) v
def onFn (v : V) (k : Nat → V → V → Bool) : Bool := V.rec (motive := fun _ => Bool) (fun _ => false) (fun _ => false) (fun _ => false) (fun _ _ => false) (fun _ _ _ _ => false) (fun _ _ _ _ _ => false) (fun g a b _ _ => Tag.rec (motive := fun _ => Bool) (fun _ _ => false) false false false false false false false false false false (fun _ => false) (fun f => k f a b) (fun _ => false) false false false g) v
def onI (v : V) (k : IntKind → Int → Bool) : Bool := V.rec (motive := fun _ => Bool) (fun _ => false) (fun _ => false) (fun _ => false) (fun _ _ => false) (fun _ _ _ _ => false) (fun _ _ _ _ _ => false) (fun g a b _ _ => Tag.rec (motive := fun _ => Bool) (fun q n => k q n) false false false false false false false false false false (fun _ => false) (fun _ => false) (fun _ => false) false false false g) v

/-- a block of cells wanted -/
def onBk (b : Blk) (k : Arr → Nat → Nat → Nat → Nat → Bool → Bool → Bool) : Bool :=
  Blk.rec (motive := fun _ => Bool) false (fun c s v f e x o => k c s v f e x o) (fun _ => false) (fun _ _ _ => false) (fun _ _ _ => false) b


/-- n cells from place i on, as a list -/
def cells (c : Arr) : (n i : Nat) → V := Nat.rec (fun _ => V.nil) (fun _ ih i => .x .cons (aget i c) (ih (i + 1)))

/-- load: one cell; an aggregate -/
def ld1 (x : V) (h : H) (k : V → Bool) : Bool := onP x fun id off lim ver => onBk (hget id h.tr) fun c _ bver _ _ _ _ =>
    both (Nat.beq ver bver) (both (Nat.ble (Nat.succ off) lim) (k (aget off c)))
def lda (n : Nat) (x : V) (h : H) (k : V → Bool) : Bool := onP x fun id off lim ver => onBk (hget id h.tr) fun c _ bver _ _ _ _ =>
    both (Nat.beq ver bver) (both (Nat.ble (Nat.add off n) lim) (k (.x .agg (cells c n off) V.nil)))

/-- a list's cells laid from place i on: exactly n -/
def lay (l : V) : (n i : Nat) → Arr → (Arr → Bool) → Bool :=
  V.rec (motive := fun _ => Nat → Nat → Arr → (Arr → Bool) → Bool) (fun _ _ _ _ _ => false) (fun _ _ _ _ _ => false) (fun _ _ _ _ _ => false) (fun _ _ _ _ _ _ => false) (fun _ _ _ _ _ _ _ _ => false) (fun _ _ _ _ _ _ _ _ _ => false)
    (fun g a b _ ihb n i c k => Tag.rec (motive := fun _ => Bool) (fun _ _ => false) false false false false false false false false
      (Nat.rec (motive := fun _ => Bool) false (fun m _ => ihb m (i + 1) (aset i a c) k) n)
      (Nat.rec (motive := fun _ => Bool) (k c) (fun _ _ => false) n)
      (fun _ => false) (fun _ => false) (fun _ => false) false false false g) l

/-- is it the value of one cell? -/
def oneV (v : V) : Bool := V.rec (motive := fun _ => Bool) (fun _ => true) (fun _ => true) (fun _ => true) (fun _ _ => true) (fun _ _ _ _ => true) (fun _ _ _ _ _ => true)
  (fun g _ _ _ _ => Tag.rec (motive := fun _ => Bool) (fun _ _ => true) true true true true true false false false false false (fun _ => true) (fun _ => true) (fun _ => true) true true false g) v


/-- a value's cells laid: one cell, or an aggregate's n -/
def layV (one : Bool) (v : V) (n i : Nat) (c : Arr) (k : Arr → Bool) : Bool :=
  bs one (both (Nat.beq n 1) (both (oneV v) (k (aset i v c)))) (onAgg v fun l => lay l n i c k)

/-- store -/
def st (one : Bool) (n : Nat) (x y : V) (h : H) (k : KV) : Bool :=
  onP x fun id off lim ver => onBk (hget id h.tr) fun c size bver frz elem ex own =>
    both own (both (Nat.beq ver bver) (both (Nat.ble (Nat.add off n) lim) (both (Nat.ble frz off)
      (layV one y n off c fun c' => k V.u ⟨h.next, hset id (.bk c' size bver frz elem ex own) h.tr⟩))))

/-- a row for n cells -/
def fresh (n : Nat) : Arr := bs (Nat.ble n 8) (.a1 z1) (.a4 z4)

/-- room for n new blocks -/
def resv (n : Nat) (h : H) (k : Nat → H → Bool) : Bool := both (Nat.ble (Nat.add h.next n) 262144) (k h.next ⟨Nat.add h.next n, h.tr⟩)
/-- a new block with a value in it: its address -/
def newA (id : Nat) (one : Bool) (n elem : Nat) (y : V) (h : H) (k : KV) : Bool :=
  both (Nat.ble 1 n) (both (Nat.ble n 4096)
    (layV one y n 0 (fresh n) fun c => k (.p id 0 n 0) ⟨h.next, hset id (.bk c n 0 0 elem true true) h.tr⟩))

def pickV (c a b : V) (k : V → Bool) : Bool := onT c fun t => k (bs t a b)
/-- the place of a field -/
def fadV (o : Nat) (x : V) (k : V → Bool) : Bool := onP x fun id off lim ver => k (.p id (Nat.add off o) lim ver)
/-- no nil -/
def nilckV (v : V) (k : V → Bool) : Bool := V.rec (motive := fun _ => Bool) (fun n => k (.w n)) (fun n => k (.y n)) (fun b => k (.t b)) (fun l n => k (.s l n)) (fun a b c d => k (.p a b c d)) (fun a b c d f => k (.sl a b c d f))
  (fun g a b _ _ => Tag.rec (motive := fun _ => Bool) (fun _ _ => k v) false (k v) false false (k v) (k v) (k v) (k v) (k v) (k v) (fun _ => k v) (fun _ => k v) (fun _ => k v) (k v) (k v) false g) v

def bias : Nat := 9223372036854775808
def two64 : Nat := 18446744073709551616

/-- two numbers of int; two of byte; others by hand -/
def arithZ (fz : IntKind → Int → Int → (V → Bool) → Bool) (x y : V) (k : V → Bool) : Bool := both (vtgInt x) (both (vtgInt y) (both (decide (xK x = xK y)) (fz (xK x) (xN x) (xN y) k)))
def arithY (fy : Nat → Nat → (V → Bool) → Bool) (fz : IntKind → Int → Int → (V → Bool) → Bool) (x y : V) (k : V → Bool) : Bool := bs (isY x) (both (isY y) (fy (yOf x) (yOf y) k)) (arithZ fz x y k)
def arith (fw fy : Nat → Nat → (V → Bool) → Bool) (fz : IntKind → Int → Int → (V → Bool) → Bool) (x y : V) (k : V → Bool) : Bool := bs (isW x) (both (isW y) (fw (wOf x) (wOf y) k)) (arithY fy fz x y k)

/-- a number of another kind -/
def mkI (k : IntKind) (n : Int) : V := .x (.int k n) V.nil V.nil

def addV := arith (fun a b k => k (.w ((a + b + bias) % two64))) (fun a b k => k (.y ((a + b) % 256))) (fun q a b k => k (mkI q (q.wrap (a + b))))
def subV := arith (fun a b k => k (.w ((a + (two64 + bias) - b) % two64))) (fun a b k => k (.y ((a + 256 - b) % 256))) (fun q a b k => k (mkI q (q.wrap (a - b))))
def mulV := arith (fun a b k => k (.w (((a + bias) * (b + bias) + bias) % two64))) (fun a b k => k (.y (a * b % 256))) (fun q a b k => k (mkI q (q.wrap (a * b))))
/-- division: of int only what is not below zero, by what is above zero -/
def quoV := arith (fun a b k => both (Nat.ble bias a) (both (Nat.ble (bias + 1) b) (k (.w ((a - bias) / (b - bias) + bias))))) (fun a b k => both (Nat.ble 1 b) (k (.y (a / b))))
  (fun q a b k => bs (decide (b = 0)) false (k (mkI q (q.wrap (a.tdiv b)))))
def remV := arith (fun a b k => both (Nat.ble bias a) (both (Nat.ble (bias + 1) b) (k (.w ((a - bias) % (b - bias) + bias))))) (fun a b k => both (Nat.ble 1 b) (k (.y (a % b))))
  (fun q a b k => bs (decide (b = 0)) false (k (mkI q (a.tmod b))))

/-- comparisons of numbers, of strings -/
def cmpZ (g : Int → Int → Bool) (x y : V) (k : V → Bool) : Bool := both (vtgInt x) (both (vtgInt y) (both (decide (xK x = xK y)) (k (.t (g (xN x) (xN y))))))
def cmpS (g : Int → Int → Bool) (hs : Nat → Nat → Nat → Nat → (V → Bool) → Bool) (x y : V) (k : V → Bool) : Bool := bs (isS x) (both (isS y) (hs (sL x) (sN x) (sL y) (sN y) k)) (cmpZ g x y k)
def cmpY (f : Nat → Nat → Bool) (g : Int → Int → Bool) (hs : Nat → Nat → Nat → Nat → (V → Bool) → Bool) (x y : V) (k : V → Bool) : Bool := bs (isY x) (both (isY y) (k (.t (f (yOf x) (yOf y))))) (cmpS g hs x y k)
def cmpV (f : Nat → Nat → Bool) (g : Int → Int → Bool) (hs : Nat → Nat → Nat → Nat → (V → Bool) → Bool) (x y : V) (k : V → Bool) : Bool := bs (isW x) (both (isW y) (k (.t (f (wOf x) (wOf y))))) (cmpY f g hs x y k)

/-- bytes of a string, as one number: the first one lowest -/
def sbyte (n i : Nat) : Nat := Nat.mod (Nat.shiftRight n (Nat.mul 8 i)) 256
/-- is the first string ahead of the second? (fuel: the first one's length) -/
def sless : (l n l' n' : Nat) → Bool :=
  Nat.rec (fun _ l' _ => Nat.ble 1 l') (fun l ih n l' n' => Nat.rec (motive := fun _ => Bool) false
    (fun m _ => bs (Nat.beq (n % 256) (n' % 256)) (ih (n / 256) m (n' / 256)) (Nat.ble (n % 256 + 1) (n' % 256))) l')
def seqB (l n l' n' : Nat) : Bool := both (Nat.beq l l') (Nat.beq n n')
def nots (b : Bool) : Bool := bs b false true

def lssV := cmpV (fun a b => Nat.ble (a + 1) b) (fun a b => decide (a < b)) (fun l n l' n' k => k (.t (sless l n l' n')))
def leqV := cmpV (fun a b => Nat.ble a b) (fun a b => decide (a ≤ b)) (fun l n l' n' k => k (.t (nots (sless l' n' l n))))
def gtrV := cmpV (fun a b => Nat.ble (b + 1) a) (fun a b => decide (a > b)) (fun l n l' n' k => k (.t (sless l' n' l n)))
def geqV (x y : V) (k : V → Bool) : Bool := bs (vtagNN x) (onW y fun m => both (Nat.ble m bias) (k (.t true))) (cmpV (fun a b => Nat.ble b a) (fun a b => decide (a ≥ b)) (fun l n l' n' k => k (.t (nots (sless l n l' n')))) x y k)

/-- concatenation -/
def catV (x y : V) (k : V → Bool) : Bool := onS x fun l n => onS y fun l' n' => both (Nat.ble (l + l') 1000000) (k (.s (l + l') (n + Nat.shiftLeft n' (8 * l))))
def plusV (x y : V) (k : V → Bool) : Bool := bs (isS x) (catV x y k) (addV x y k)

/-- a number that is not below zero, of any kind -/
def onIx (v : V) (k : Nat → Bool) : Bool := bs (isW v) (onW v fun i => both (Nat.ble bias i) (k (Nat.sub i bias))) (bs (isY v) (onY v k) (onI v fun _ n => both (decide (0 ≤ n)) (k n.toNat)))
def sidxV (x y : V) (k : V → Bool) : Bool := onS x fun l n => onIx y fun i => both (Nat.ble (Nat.succ i) l) (k (.y (sbyte n i)))
/-- shifted to the right -/
def shrV (x y : V) (k : V → Bool) : Bool := onIx y fun b => bs (isW x) (both (Nat.ble b 64) (onW x fun n => both (Nat.ble bias n) (k (.w (Nat.add (Nat.div (Nat.sub n bias) (Nat.pow 2 b)) bias)))))
  (bs (isY x) (both (Nat.ble b 8) (onY x fun n => k (.y (Nat.div n (Nat.pow 2 b))))) (onI x fun q a => both (Nat.ble b q.bits) (k (mkI q (a / 2 ^ b)))))
/-- room of a nil slice; nothing copied -/
def capL (v : V) (k : V → Bool) : Bool := onSl v (k (.w bias)) fun _ _ _ _ _ => false
def copD (x : V) (k : V → Bool) : Bool := onSl x (k (.w bias)) fun _ _ _ _ _ => k (.w bias)
def copL (x y : V) (k : V → Bool) : Bool := onSl y (copD x k) fun _ _ len _ _ => both (Nat.beq len 0) (copD x k)
/-- a row of one value -/
def afill (n : Nat) (v : V) : Arr := bs (Nat.ble n 8) (.a1 (n8 v)) (.a4 (n8 (n8 (n8 (n8 v)))))
def mkslA (id elem : Nat) (z x y : V) (h : H) (k : KV) : Bool := onIx x fun n => onIx y fun m => both (Nat.beq n m) (both (Nat.ble n 4096) (k (.sl id 0 n 0 1) ⟨h.next, hset id (.bk (afill n z) n 0 0 elem true true) h.tr⟩))
/-- a part of a string -/
def ssub (l n lo hi : Nat) : V := .s (hi - lo) (Nat.mod (Nat.shiftRight n (8 * lo)) (Nat.pow 256 (hi - lo)))

def maxV := arith (fun a b k => k (.w (bs (Nat.ble (a + 1) b) b a))) (fun a b k => k (.y (bs (Nat.ble (a + 1) b) b a))) (fun q a b k => k (mkI q (if b > a then b else a)))
def minV := arith (fun a b k => k (.w (bs (Nat.ble (b + 1) a) b a))) (fun a b k => k (.y (bs (Nat.ble (b + 1) a) b a))) (fun q a b k => k (mkI q (if b < a then b else a)))
def notV (x : V) (k : V → Bool) : Bool := onT x fun b => k (.t (nots b))
/-! the same by kind: what a program's type says -/
def addW (x y : V) (k : V → Bool) : Bool := onW x fun a => onW y fun b => k (.w (Nat.mod (Nat.add (Nat.add a b) bias) two64))
def addY (x y : V) (k : V → Bool) : Bool := onY x fun a => onY y fun b => k (.y (Nat.mod (Nat.add a b) 256))
def subW (x y : V) (k : V → Bool) : Bool := onW x fun a => onW y fun b => k (.w (Nat.mod (Nat.sub (Nat.add a (two64 + bias)) b) two64))
def subY (x y : V) (k : V → Bool) : Bool := onY x fun a => onY y fun b => k (.y (Nat.mod (Nat.sub (Nat.add a 256) b) 256))
def lssW (x y : V) (k : V → Bool) : Bool := onW x fun a => onW y fun b => k (.t (Nat.ble (Nat.succ a) b))
def leqW (x y : V) (k : V → Bool) : Bool := onW x fun a => onW y fun b => k (.t (Nat.ble a b))
def gtrW (x y : V) (k : V → Bool) : Bool := onW x fun a => onW y fun b => k (.t (Nat.ble (Nat.succ b) a))
def eqlW (x y : V) (k : V → Bool) : Bool := onW x fun a => onW y fun b => k (.t (Nat.beq a b))
def neqW (x y : V) (k : V → Bool) : Bool := onW x fun a => onW y fun b => k (.t (nots (Nat.beq a b)))
def lssY (x y : V) (k : V → Bool) : Bool := onY x fun a => onY y fun b => k (.t (Nat.ble (Nat.succ a) b))
def leqY (x y : V) (k : V → Bool) : Bool := onY x fun a => onY y fun b => k (.t (Nat.ble a b))
def gtrY (x y : V) (k : V → Bool) : Bool := onY x fun a => onY y fun b => k (.t (Nat.ble (Nat.succ b) a))
def geqY (x y : V) (k : V → Bool) : Bool := onY x fun a => onY y fun b => k (.t (Nat.ble b a))
def eqlY (x y : V) (k : V → Bool) : Bool := onY x fun a => onY y fun b => k (.t (Nat.beq a b))
def neqY (x y : V) (k : V → Bool) : Bool := onY x fun a => onY y fun b => k (.t (nots (Nat.beq a b)))
def eqlS (x y : V) (k : V → Bool) : Bool := onS x fun l n => onS y fun l' n' => k (.t (seqB l n l' n'))
def neqS (x y : V) (k : V → Bool) : Bool := onS x fun l n => onS y fun l' n' => k (.t (nots (seqB l n l' n')))
/-- is it a nil? of pointers, slices, functions, interfaces, maps -/
def nilP (v : V) (k : Bool → Bool) : Bool := V.rec (motive := fun _ => Bool) (fun _ => false) (fun _ => false) (fun _ => false) (fun _ _ => false) (fun _ _ _ _ => k false) (fun _ _ _ _ _ => false) (fun g _ _ _ _ => Tag.rec (motive := fun _ => Bool) (fun _ _ => false) (k true) false false false false false false false false false (fun _ => false) (fun _ => false) (fun _ => false) false false false g) v
def nilS (v : V) (k : Bool → Bool) : Bool := V.rec (motive := fun _ => Bool) (fun _ => false) (fun _ => false) (fun _ => false) (fun _ _ => false) (fun _ _ _ _ => false) (fun _ _ _ _ _ => k false) (fun g _ _ _ _ => Tag.rec (motive := fun _ => Bool) (fun _ _ => false) false (k true) false false false false false false false false (fun _ => false) (fun _ => false) (fun _ => false) false false false g) v
def nilF (v : V) (k : Bool → Bool) : Bool := V.rec (motive := fun _ => Bool) (fun _ => false) (fun _ => false) (fun _ => false) (fun _ _ => false) (fun _ _ _ _ => false) (fun _ _ _ _ _ => false) (fun g _ _ _ _ => Tag.rec (motive := fun _ => Bool) (fun _ _ => false) false false (k true) false false false false false false false (fun _ => false) (fun _ => k false) (fun _ => false) false false false g) v
def nilI (v : V) (k : Bool → Bool) : Bool := V.rec (motive := fun _ => Bool) (fun _ => false) (fun _ => false) (fun _ => false) (fun _ _ => false) (fun _ _ _ _ => false) (fun _ _ _ _ _ => false) (fun g _ _ _ _ => Tag.rec (motive := fun _ => Bool) (fun _ _ => false) false false false (k true) false false false false false false (fun _ => k false) (fun _ => false) (fun _ => false) false false false g) v
def nilM (v : V) (k : Bool → Bool) : Bool := V.rec (motive := fun _ => Bool) (fun _ => false) (fun _ => false) (fun _ => false) (fun _ _ => false) (fun _ _ _ _ => false) (fun _ _ _ _ _ => false) (fun g _ _ _ _ => Tag.rec (motive := fun _ => Bool) (fun _ _ => false) false false false false (k true) false false false false false (fun _ => false) (fun _ => false) (fun _ => k false) false false false g) v
/-- equal, where one of the two at least is nil -/
def eqN (nk : V → (Bool → Bool) → Bool) (f : Bool → Bool) (x y : V) (k : V → Bool) : Bool := nk x fun a => nk y fun b => both (bs a true b) (k (.t (f (both a b))))

def negV (x : V) (k : V → Bool) : Bool := onW x fun a => k (.w ((two64 + two64 - a) % two64))

/-- equal, as they stand -/
def tagC (g : Tag) : Nat := Tag.rec (motive := fun _ => Nat) (fun _ _ => 0) 1 2 3 4 5 6 7 8 9 10 (fun _ => 11) (fun _ => 12) (fun _ => 13) 14 15 16 g
def tagA (g : Tag) : Nat := Tag.rec (motive := fun _ => Nat) (fun _ _ => 0) 0 0 0 0 0 0 0 0 0 0 (fun t => t) (fun t => t) (fun t => t) 0 0 0 g
def eqG (g h : Tag) : Bool := both (Nat.beq (tagC g) (tagC h)) (both (Nat.beq (tagA g) (tagA h)) (both (decide (tgK g = tgK h)) (decide (tgN g = tgN h))))
def eqV (a : V) : V → Bool := V.rec (motive := fun _ => V → Bool) (fun n b => onW b (Nat.beq n)) (fun n b => onY b (Nat.beq n)) (fun t b => onT b fun u => bs t u (nots u))
  (fun l n b => onS b fun l' n' => both (Nat.beq l l') (Nat.beq n n')) (fun i o l v b => onP b fun i' o' l' v' => both (Nat.beq i i') (both (Nat.beq o o') (both (Nat.beq l l') (Nat.beq v v'))))
  (fun i o l v z b => onSl b false fun i' o' l' v' z' => both (Nat.beq i i') (both (Nat.beq o o') (both (Nat.beq l l') (both (Nat.beq v v') (Nat.beq z z')))))
  (fun g _ _ iha ihb b => V.rec (motive := fun _ => Bool) (fun _ => false) (fun _ => false) (fun _ => false) (fun _ _ => false) (fun _ _ _ _ => false) (fun _ _ _ _ _ => false) (fun g' a' b' _ _ => both (eqG g g') (both (iha a') (ihb b'))) b) a

end
end Go.Bvm
