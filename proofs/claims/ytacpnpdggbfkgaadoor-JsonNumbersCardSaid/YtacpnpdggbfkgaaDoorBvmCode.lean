/- The abstract machine: code. Conditions: none. -/
import Derived.Test.YtacpnpdggbfkgaaDoorBvmOps
set_option linter.unusedVariables false
namespace Go.Bvm
noncomputable section

/-- the place of an element of a slice, of an array -/
def iadV (esz : Nat) (x y : V) (k : V → Bool) : Bool := onSl x false fun id off len ver es => onW y fun i =>
  both (Nat.beq es esz) (both (Nat.ble bias i) (both (Nat.ble (i + 1) (len + bias)) (k (.p id (off + (i - bias) * esz) (off + len * esz) ver))))
def iaaV (esz n : Nat) (x y : V) (k : V → Bool) : Bool := onP x fun id off lim ver => onW y fun i =>
  both (Nat.ble bias i) (both (Nat.ble (i + 1) (n + bias)) (k (.p id (off + (i - bias) * esz) lim ver)))

/-- length -/
def lenS (v : V) (k : V → Bool) : Bool := onS v fun l _ => both (Nat.ble l 1000000000) (k (.w (l + bias)))
def lenL (v : V) (k : V → Bool) : Bool := bs (vtagOS v) (k (.x .nn V.nil V.nil)) <| onSl v (k (.w bias)) fun _ _ c _ _ => both (Nat.ble c 1000000000) (k (.w (c + bias)))

/-- a bound that may be missing -/
def bnd (x : Option V) (d : Nat) (k : Nat → Bool) : Bool := match x with | none => k d | some v => onW v fun i => both (Nat.ble bias i) (k (Nat.sub i bias))

def sstr (lo hi : Option V) (x : V) (k : V → Bool) : Bool := onS x fun l n => bnd hi l fun b => both (Nat.ble b l) (bnd lo 0 fun a => both (Nat.ble a b) (k (ssub l n a b)))
def ssli (esz : Nat) (lo hi : Option V) (x : V) (k : V → Bool) : Bool :=
  onSl x (bnd hi 0 fun b => both (Nat.ble b 0) (bnd lo 0 fun a => both (Nat.ble a b) (k (.x .slnil V.nil V.nil))))
    fun id off len ver es => both (Nat.beq es esz) (bnd hi len fun b => both (Nat.ble b len) (bnd lo 0 fun a => both (Nat.ble a b) (k (.sl id (off + a * esz) (b - a) ver esz))))
def sarr (esz n : Nat) (lo hi : Option V) (x : V) (k : V → Bool) : Bool :=
  onP x fun id off lim ver => both (Nat.ble (off + n * esz) lim) (bnd hi n fun b => both (Nat.ble b n) (bnd lo 0 fun a => both (Nat.ble a b) (k (.sl id (off + a * esz) (b - a) ver esz))))

/-- cells of a list, laid into a row that is made great enough first -/
def room (n : Nat) (c : Arr) : Arr := bs (Nat.ble n (acap c)) c (agrow c)
/-- copy n cells from one row into another one -/
def acopy (c : Arr) : (n i j : Nat) → Arr → Arr := Nat.rec (fun _ _ c' => c') (fun _ ih i j c' => ih (i + 1) (j + 1) (aset j (aget i c) c'))
/-- the bytes of a string as cells -/
def abytes : (l n j : Nat) → Arr → Arr := Nat.rec (fun _ _ c => c) (fun _ ih n j c => ih (n / 256) (j + 1) (aset j (.y (n % 256)) c))

/-- what is appended: how many elements, and how they are laid from place j on -/
def onSrc (esz : Nat) (v : V) (h : H) (k : (n : Nat) → (Nat → Arr → Arr) → Bool) : Bool :=
  V.rec (motive := fun _ => Bool) (fun _ => false) (fun _ => false) (fun _ => false) (fun l n => both (Nat.beq esz 1) (k l (fun j c => abytes l n j c))) (fun _ _ _ _ => false)
    (fun id off len ver es => both (Nat.beq es esz) (onBk (hget id h.tr) fun c size bver _ _ _ _ => both (Nat.beq ver bver) (k len (fun j c' => acopy c (len * esz) off j c'))))
    (fun g _ _ _ _ => Tag.rec (motive := fun _ => Bool) (fun _ _ => false) false (k 0 (fun _ c => c)) false false false false false false false false (fun _ => false) (fun _ => false) (fun _ => false) false false false g) v

def app (esz elem : Nat) (x y : V) (h : H) (k : KV) : Bool :=
  both (Nat.ble 1 esz) (onSrc esz y h fun n src => bs (Nat.beq n 0) (onSl x (k x h) (fun _ _ _ _ _ => k x h))
    (onSl x
      (both (Nat.ble (n * esz) 4096) (both (Nat.ble (h.next + 1) 262144) (k (.sl h.next 0 n 0 esz) ⟨h.next + 1, hset h.next (.bk (src 0 (fresh (n * esz))) (n * esz) 0 0 elem false true) h.tr⟩)))
      fun id off len ver es => both (Nat.beq es esz) (onBk (hget id h.tr) fun c size bver frz el ex own =>
        both own (both (Nat.beq ver bver) (both (both (Nat.beq el elem) (Nat.ble frz (off + len * esz)))
          (bs (both (Nat.beq off 0) (Nat.beq (len * esz) size))
            (both (Nat.ble (size + n * esz) 4096) (k (.sl id 0 (len + n) (ver + 1) esz) ⟨h.next, hset id (.bk (src size (room (size + n * esz) c)) (size + n * esz) (ver + 1) frz elem false true) h.tr⟩))
            (both (Nat.ble (len * esz + n * esz) 4096) (both (Nat.ble (h.next + 1) 262144) (k (.sl h.next 0 (len + n) 0 esz)
              ⟨h.next + 1, hset h.next (.bk (src (len * esz) (acopy c (len * esz) off 0 (fresh (len * esz + n * esz)))) (len * esz + n * esz) 0 frz elem false true) (hset id .nb h.tr)⟩)))))))))

/-- string to bytes, bytes to string -/
def s2bA (id elem : Nat) (x : V) (h : H) (k : KV) : Bool := onS x fun l n =>
  both (Nat.ble l 4096) (k (.sl id 0 l 0 1) ⟨h.next, hset id (.bk (abytes l n 0 (fresh l)) l 0 0 elem false true) h.tr⟩)
def packA (c : Arr) : (n i : Nat) → (Nat → Bool) → Bool := Nat.rec (motive := fun _ => Nat → (Nat → Bool) → Bool) (fun _ k => k 0) (fun _ ih i k => onY (aget i c) (fun b => ih (i + 1) fun r => k (b + 256 * r)))
def b2s (x : V) (h : H) (k : V → Bool) : Bool := onSl x (k (.s 0 0)) fun id off len ver es => both (Nat.beq es 1)
  (onBk (hget id h.tr) fun c _ bver _ _ _ _ => both (Nat.beq ver bver) (packA c len off fun r => k (.s len r)))

/-- conversions of numbers -/
def toW (v : V) (k : V → Bool) : Bool := V.rec (motive := fun _ => Bool) (fun n => k (.w n)) (fun n => k (.w (n + bias))) (fun _ => false) (fun _ _ => false) (fun _ _ _ _ => false) (fun _ _ _ _ _ => false)
  (fun g _ _ _ _ => Tag.rec (motive := fun _ => Bool) (fun _ n => k (.w ((IntKind.wrap .i64 n + 9223372036854775808).toNat))) false false false false false false false false false false (fun _ => false) (fun _ => false) (fun _ => false) false false false g) v
def toY (v : V) (k : V → Bool) : Bool := V.rec (motive := fun _ => Bool) (fun n => k (.y (n % 256))) (fun n => k (.y n)) (fun _ => false) (fun _ _ => false) (fun _ _ _ _ => false) (fun _ _ _ _ _ => false)
  (fun g _ _ _ _ => Tag.rec (motive := fun _ => Bool) (fun _ n => k (.y ((IntKind.wrap .u8 n).toNat))) false false false false false false false false false false (fun _ => false) (fun _ => false) (fun _ => false) false false false g) v
def toI (q : IntKind) (v : V) (k : V → Bool) : Bool := V.rec (motive := fun _ => Bool) (fun n => k (mkI q (q.wrap ((n : Int) - 9223372036854775808)))) (fun n => k (mkI q (q.wrap (n : Int)))) (fun _ => false) (fun _ _ => false) (fun _ _ _ _ => false) (fun _ _ _ _ _ => false)
  (fun g _ _ _ _ => Tag.rec (motive := fun _ => Bool) (fun _ n => k (mkI q (q.wrap n))) false false false false false false false false false false (fun _ => false) (fun _ => false) (fun _ => false) false false false g) v

def vapp (a b : V) : V := V.rec (motive := fun _ => V) (fun _ => b) (fun _ => b) (fun _ => b) (fun _ _ => b) (fun _ _ _ _ => b) (fun _ _ _ _ _ => b)
  (fun g hd _ _ ih => Tag.rec (motive := fun _ => V) (fun _ _ => b) b b b b b b b b (.x .cons hd ih) b (fun _ => b) (fun _ => b) (fun _ => b) b b b g) a

def callV (cf : CallF) (x l : V) (h : H) (k : KV) : Bool := onFn x fun f a b => cf f (vapp (vapp a l) b) h k

/-- a tuple's part -/
def vnth (l : V) : Nat → (V → Bool) → Bool := V.rec (motive := fun _ => Nat → (V → Bool) → Bool) (fun _ _ _ => false) (fun _ _ _ => false) (fun _ _ _ => false) (fun _ _ _ _ => false) (fun _ _ _ _ _ _ => false) (fun _ _ _ _ _ _ _ => false)
  (fun g hd _ _ ih n k => Tag.rec (motive := fun _ => Bool) (fun _ _ => false) false false false false false false false false (Nat.rec (motive := fun _ => Bool) (k hd) (fun m _ => ih m k) n) false (fun _ => false) (fun _ => false) (fun _ => false) false false false g) l
def ext (i : Nat) (x : V) (k : V → Bool) : Bool := onTup x fun l => vnth l i k
/-- a list's part from place i on, n long -/
def vtake (l : V) : Nat → (V → Bool) → Bool := V.rec (motive := fun _ => Nat → (V → Bool) → Bool) (fun _ _ _ => false) (fun _ _ _ => false) (fun _ _ _ => false) (fun _ _ _ _ => false) (fun _ _ _ _ _ _ => false) (fun _ _ _ _ _ _ _ => false)
  (fun g hd _ _ ih n k => Tag.rec (motive := fun _ => Bool) (fun _ _ => false) false false false false false false false false (Nat.rec (motive := fun _ => Bool) (k V.nil) (fun m _ => ih m fun r => k (.x .cons hd r)) n)
    (Nat.rec (motive := fun _ => Bool) (k V.nil) (fun _ _ => false) n) (fun _ => false) (fun _ => false) (fun _ => false) false false false g) l
def vdrop (l : V) : Nat → (V → Bool) → Bool := V.rec (motive := fun _ => Nat → (V → Bool) → Bool) (fun _ _ _ => false) (fun _ _ _ => false) (fun _ _ _ => false) (fun _ _ _ _ => false) (fun _ _ _ _ _ _ => false) (fun _ _ _ _ _ _ _ => false)
  (fun g hd tl _ ih n k => Tag.rec (motive := fun _ => Bool) (fun _ _ => false) false false false false false false false false (Nat.rec (motive := fun _ => Bool) (k (.x .cons hd tl)) (fun m _ => ih m k) n)
    (Nat.rec (motive := fun _ => Bool) (k V.nil) (fun _ _ => false) n) (fun _ => false) (fun _ => false) (fun _ => false) false false false g) l
/-- a field of an aggregate -/
def fieldV (one : Bool) (o n : Nat) (v : V) (k : V → Bool) : Bool := onAgg v fun l => vdrop l o fun r => bs one (vnth r 0 k) (vtake r n fun q => k (.x .agg q V.nil))

/-- a list's part from place off on exchanged for another list -/
def vput (l : V) : (off : Nat) → V → (V → Bool) → Bool := V.rec (motive := fun _ => Nat → V → (V → Bool) → Bool) (fun _ _ _ _ => false) (fun _ _ _ _ => false) (fun _ _ _ _ => false) (fun _ _ _ _ _ => false) (fun _ _ _ _ _ _ _ => false) (fun _ _ _ _ _ _ _ _ => false)
  (fun g hd tl _ ih off vs k => Tag.rec (motive := fun _ => Bool) (fun _ _ => false) false false false false false false false false
    (Nat.rec (motive := fun _ => Bool)
      (V.rec (motive := fun _ => Bool) (fun _ => false) (fun _ => false) (fun _ => false) (fun _ _ => false) (fun _ _ _ _ => false) (fun _ _ _ _ _ => false)
        (fun g' v vr _ _ => Tag.rec (motive := fun _ => Bool) (fun _ _ => false) false false false false false false false false (ih 0 vr fun r => k (.x .cons v r)) (k (.x .cons hd tl)) (fun _ => false) (fun _ => false) (fun _ => false) false false false g') vs)
      (fun m _ => ih m vs fun r => k (.x .cons hd r)) off)
    (Nat.rec (motive := fun _ => Bool) (V.rec (motive := fun _ => Bool) (fun _ => false) (fun _ => false) (fun _ => false) (fun _ _ => false) (fun _ _ _ _ => false) (fun _ _ _ _ _ => false)
        (fun g' _ _ _ _ => Tag.rec (motive := fun _ => Bool) (fun _ _ => false) false false false false false false false false false (k V.nil) (fun _ => false) (fun _ => false) (fun _ => false) false false false g') vs) (fun _ _ => false) off) (fun _ => false) (fun _ => false) (fun _ => false) false false false g) l
/-- how long a list is -/
def vlen (l : V) : Nat := V.rec (motive := fun _ => Nat) (fun _ => 0) (fun _ => 0) (fun _ => 0) (fun _ _ => 0) (fun _ _ _ _ => 0) (fun _ _ _ _ _ => 0)
  (fun g _ _ _ ih => Tag.rec (motive := fun _ => Nat) (fun _ _ => 0) 0 0 0 0 0 0 0 0 (ih + 1) 0 (fun _ => 0) (fun _ => 0) (fun _ => 0) 0 0 0 g) l
/-- one part filled into a list: where, one cell or how many, what -/
def part (off : Nat) (one : Bool) (n : Nat) (x l : V) (k : V → Bool) : Bool :=
  bs one (both (Nat.beq n 1) (both (oneV x) (vput l off (.x .cons x V.nil) k))) (onAgg x fun q => both (Nat.beq (vlen q) n) (vput l off q k))
def bslA (id len esz elem : Nat) (l : V) (h : H) (k : KV) : Bool := both (Nat.ble (len * esz) 4096)
  (lay l (len * esz) 0 (fresh (len * esz)) fun c => k (.sl id 0 len 0 esz) ⟨h.next, hset id (.bk c (len * esz) 0 0 elem true true) h.tr⟩)

/-- a list: one more, or none -/
def onCons (l : V) (k : V → V → Bool) : Bool := V.rec (motive := fun _ => Bool) (fun _ => false) (fun _ => false) (fun _ => false) (fun _ _ => false) (fun _ _ _ _ => false) (fun _ _ _ _ _ => false) (fun g a b _ _ => Tag.rec (motive := fun _ => Bool) (fun _ _ => false) false false false false false false false false (k a b) false (fun _ => false) (fun _ => false) (fun _ => false) false false false g) l
def onNil (l : V) (k : Bool) : Bool := V.rec (motive := fun _ => Bool) (fun _ => false) (fun _ => false) (fun _ => false) (fun _ _ => false) (fun _ _ _ _ => false) (fun _ _ _ _ _ => false) (fun g _ _ _ _ => Tag.rec (motive := fun _ => Bool) (fun _ _ => false) false false false false false false false false false k (fun _ => false) (fun _ => false) (fun _ => false) false false false g) l

/-! code -/
/-- only where x is true (not true): else nothing is known of the place -/
def guardT (x : V) (h : H) (f : KV → Bool) (k : KV) : Bool := V.rec (motive := fun _ => Bool) (fun _ => false) (fun _ => false) (fun t => Bool.rec (motive := fun _ => Bool) (k V.u h) (f k) t) (fun _ _ => false) (fun _ _ _ _ => false) (fun _ _ _ _ _ => false)
    (fun g _ _ _ _ => Tag.rec (motive := fun _ => Bool) (fun _ _ => false) false false false false false (k V.u h) false false false false (fun _ => false) (fun _ => false) (fun _ => false) false false false g) x
def guardF (x : V) (h : H) (f : KV → Bool) (k : KV) : Bool := V.rec (motive := fun _ => Bool) (fun _ => false) (fun _ => false) (fun t => Bool.rec (motive := fun _ => Bool) (f k) (k V.u h) t) (fun _ _ => false) (fun _ _ _ _ => false) (fun _ _ _ _ _ => false)
    (fun g _ _ _ _ => Tag.rec (motive := fun _ => Bool) (fun _ _ => false) false false false false false (k V.u h) false false false false (fun _ => false) (fun _ => false) (fun _ => false) false false false g) x
def seqM (a b : M) : M := fun e h K => a e h fun x e' h' => X.rec (motive := fun _ => Bool) (b e' h' K) (fun i => K (.x i) e' h') (K .r e' h') x
def condV (x : V) (a b : Bool) : Bool := V.rec (motive := fun _ => Bool) (fun _ => false) (fun _ => false) (fun t => Bool.rec (motive := fun _ => Bool) b a t) (fun _ _ => false) (fun _ _ _ _ => false) (fun _ _ _ _ _ => false) (fun _ _ _ _ _ => false) x
def unX (i : Nat) (x : X) : X := X.rec (motive := fun _ => X) .n (fun j => bs (Nat.beq j i) .n (.x j)) .r x
def blockM (i : Nat) (a : M) : M := fun e h K => a e h fun x e' h' => K (unX i x) e' h'
def loopM (fuel : Nat) (a : M) : M := Nat.rec (motive := fun _ => M) (fun _ _ _ => false) (fun _ ih e h K => a e h fun x e' h' => X.rec (motive := fun _ => Bool) (ih e' h' K) (fun i => K (.x i) e' h') (K .r e' h') x) fuel

/-! pointers seen as another type; bytes taken for a string -/
def isPnil (v : V) : Bool := V.rec (motive := fun _ => Bool) (fun _ => false) (fun _ => false) (fun _ => false) (fun _ _ => false) (fun _ _ _ _ => false) (fun _ _ _ _ _ => false) (fun g _ _ _ _ => Tag.rec (motive := fun _ => Bool) (fun _ _ => false) true false false false false false false false false false (fun _ => false) (fun _ => false) (fun _ => false) false false false g) v
def cvU (x : V) (h : H) (k : V → Bool) : Bool := bs (isPnil x) (k x) (onP x fun id off lim ver => onBk (hget id h.tr) fun c size bver frz elem ex own => both (Nat.beq ver bver) (both (Nat.ble (Nat.succ off) lim) (k x)))
def cvP (u n : Nat) (x : V) (h : H) (k : V → Bool) : Bool := bs (isPnil x) (k x) (onP x fun id off lim ver => onBk (hget id h.tr) fun c size bver frz elem ex own => both (Nat.beq ver bver) (both (Nat.beq elem u) (both (Nat.beq off 0) (both ex (both (Nat.beq size n) (k x))))))
/-- two pointers: the same one; or one of them nil -/
def eqPt (f : Bool → Bool) (x y : V) (k : V → Bool) : Bool := bs (both (isP x) (isP y)) (onP x fun i o _ v => onP y fun i' o' _ v' => both (Nat.beq i i') (both (Nat.beq o o') (both (Nat.beq v v') (k (.t (f true)))))) (eqN nilP f x y k)
def sdata (x : V) (k : V → Bool) : Bool := onSl x (k (.x .pnil V.nil V.nil)) fun id off len ver es => both (Nat.ble 1 len) (k (.p id off (off + len * es) ver))
def usS (e : Nat) (x y : V) (h : H) (k : KV) : Bool := onW y fun m => both (Nat.ble bias m) (bs (Nat.beq m bias) (bs (isPnil x) (k (.s 0 0) h) (onP x fun _ _ _ _ => k (.s 0 0) h))
  (onP x fun id off lim ver => onBk (hget id h.tr) fun c size bver frz elem ex own => both own (both (Nat.beq ver bver) (both (Nat.ble (off + (m - bias)) lim) (both (both (Nat.beq elem e) (Nat.ble (m - bias) 1000000000))
    (packA c (m - bias) off fun r => k (.s (m - bias) r) ⟨h.next, hset id (.bk c size bver frz elem ex false) h.tr⟩))))))

/-! structs of numbers, strings and bools: equal? -/
def eqI (x y : V) (k : Bool → Bool) : Bool := bs (isW x) (onW x fun a => onW y fun b => k (Nat.beq a b)) (bs (isY x) (onY x fun a => onY y fun b => k (Nat.beq a b)) (onI x fun q n => onI y fun q' m => both (decide (q = q')) (k (decide (n = m)))))
def eq1 (c : Nat) (x y : V) (k : Bool → Bool) : Bool := bs (Nat.beq c 0) (eqI x y k) (bs (Nat.beq c 1) (onS x fun l n => onS y fun l' n' => k (seqB l n l' n')) (onT x fun a => onT y fun b => k (bs a b (nots b))))
def eqLs (ks : List Nat) : V → V → (Bool → Bool) → Bool := List.rec (motive := fun _ => V → V → (Bool → Bool) → Bool) (fun x y k => onNil x (onNil y (k true))) (fun c _ ih x y k => onCons x fun a x' => onCons y fun b y' => eq1 c a b fun r => ih x' y' fun q => k (bs r q false)) ks
def eqAg (ks : List Nat) (f : Bool → Bool) (x y : V) (k : V → Bool) : Bool := onAgg x fun l => onAgg y fun m => eqLs ks l m fun r => k (.t (f r))
/-- a slice of bytes seen as a slice of bytes: from here on it is read only -/
def cvS (x : V) (h : H) (k : KV) : Bool := onSl x false fun id off len ver es => both (Nat.ble 1 len) (onBk (hget id h.tr) fun c size bver frz elem ex own => both own (both (Nat.beq ver bver) (k x ⟨h.next, hset id (.bk c size bver frz elem ex false) h.tr⟩)))

/-! going through a string; maps -/
def onIt (b : Blk) (k : Nat → Nat → Nat → Bool) : Bool := Blk.rec (motive := fun _ => Bool) false (fun _ _ _ _ _ _ _ => false) (fun _ => false) (fun l n pos => k l n pos) (fun _ _ _ => false) b
def onMp (b : Blk) (k : V → Bool) : Bool := Blk.rec (motive := fun _ => Bool) false (fun _ _ _ _ _ _ _ => false) (fun kv => k kv) (fun _ _ _ => false) (fun _ _ _ => false) b
def itA (id : Nat) (x : V) (h : H) (k : KV) : Bool := onS x fun l n => both (Nat.ble l 1000000000) (k (.p id 0 0 0) ⟨h.next, hset id (.it l n 0) h.tr⟩)
def itN (x : V) (h : H) (k : KV) : Bool := onP x fun id off lim ver => both (Nat.beq off 0) (both (Nat.beq ver 0) (onIt (hget id h.tr) fun l n pos => both (Nat.ble l 1000000000) (bs (Nat.ble l pos) (k (.x .tup (.x .cons (.t false) V.nil) V.nil) h)
  (both (Nat.ble (Nat.mod n 256) 127) (k (.x .tup (.x .cons (.t true) (.x .cons (.w (pos + bias)) (.x .cons (mkI .i32 (Int.ofNat (Nat.mod n 256))) V.nil))) V.nil) ⟨h.next, hset id (.it l (Nat.div n 256) (Nat.succ pos)) h.tr⟩)))))
def mapA (id : Nat) (h : H) (k : KV) : Bool := k (.x (.map id) V.nil V.nil) ⟨h.next, hset id (.mp V.nil) h.tr⟩
/-- a key's value: found, or not -/
def fndK (l n : Nat) (kv : V) : (V → Bool) → Bool → Bool := V.rec (motive := fun _ => (V → Bool) → Bool → Bool) (fun _ _ _ => false) (fun _ _ _ => false) (fun _ _ _ => false) (fun _ _ _ _ => false) (fun _ _ _ _ _ _ => false) (fun _ _ _ _ _ _ _ => false)
  (fun g e _ _ ih yes no => Tag.rec (motive := fun _ => Bool) (fun _ _ => false) false false false false false false false false (onCons e fun key val => onS key fun l' n' => bs (seqB l n l' n') (yes val) (ih yes no)) no (fun _ => false) (fun _ => false) (fun _ => false) false false false g) kv
def onMap (v : V) (kn : Bool) (k : Nat → Bool) : Bool := V.rec (motive := fun _ => Bool) (fun _ => false) (fun _ => false) (fun _ => false) (fun _ _ => false) (fun _ _ _ _ => false) (fun _ _ _ _ _ => false) (fun g _ _ _ _ => Tag.rec (motive := fun _ => Bool) (fun _ _ => false) false false false false kn false false false false false (fun _ => false) (fun _ => false) (fun id => k id) false false false g) v
def mpI (x y z : V) (h : H) (k : KV) : Bool := onMap x false fun id => onS y fun l n => onMp (hget id h.tr) fun kv => fndK l n kv (fun _ => false) (k V.u ⟨h.next, hset id (.mp (vapp kv (.x .cons (.x .cons y z) V.nil))) h.tr⟩)
def mpR (ok : Bool) (v : V) (b : Bool) : V := bs ok (.x .tup (.x .cons v (.x .cons (.t b) V.nil)) V.nil) v
def mpL (ok : Bool) (zero x y : V) (h : H) (k : V → Bool) : Bool := onS y fun l n => onMap x (k (mpR ok zero false)) fun id => onMp (hget id h.tr) fun kv => fndK l n kv (fun v => k (mpR ok v true)) (k (mpR ok zero false))

end
end Go.Bvm
