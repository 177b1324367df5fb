/- The abstract machine: code. Conditions: none. -/
import Derived.Test.YtacpnpdggbfkgaaAvmOps
set_option linter.unusedVariables false
namespace Go.Avm
noncomputable section

/-- a slice wanted: nil, or not -/
def onSl (v : V) (kn : Bool) (k : Nat → Nat → Nat → Nat → Nat → Bool) : Bool := bs (isSl v) (k (slI v) (slO v) (slL v) (slV v) (slE v)) (both (vtgSlnil v) kn)

/-- the place of an element of a slice, of an array -/
def iadV (esz : Nat) (x y : V) (k : V → Bool) : Bool := onSl x false fun id off len ver es => onW y fun i =>
  both (Nat.beq es esz) (both (Nat.ble bias i) (both (Nat.ble (i + 1) (len + bias)) (k (.p id (off + (i - bias) * esz) (off + len * esz) ver))))
def iaaV (esz n : Nat) (x y : V) (k : V → Bool) : Bool := onP x fun id off lim ver => onW y fun i =>
  both (Nat.ble bias i) (both (Nat.ble (i + 1) (n + bias)) (k (.p id (off + (i - bias) * esz) lim ver)))

/-- length -/
def lenS (v : V) (k : V → Bool) : Bool := onS v fun l _ => both (Nat.ble l 1000000000) (k (.w (l + bias)))
def lenL (v : V) (k : V → Bool) : Bool := bs (vtagOS v) (k (.x .nn V.nil V.nil)) <| onSl v (k (.w bias)) fun _ _ c _ _ => both (Nat.ble c 1000000000) (k (.w (c + bias)))

/-- a bound that may be missing -/
abbrev B? := E → Nat → (Nat → Bool) → Bool
def bN : B? := fun _ d k => k d
def bS (x : E → V) : B? := fun e _ k => onW (x e) fun i => both (Nat.ble bias i) (k (i - bias))

def sstrO (d : Dst) (x : E → V) (lo hi : B?) : O := fun e h k => onS (x e) fun l n => hi e l fun b => both (Nat.ble b l) (lo e 0 fun a => both (Nat.ble a b) (d (ssub l n a b) e fun e' => k e' h))
def ssliO (d : Dst) (esz : Nat) (x : E → V) (lo hi : B?) : O := fun e h k =>
  onSl (x e) (hi e 0 fun b => both (Nat.ble b 0) (lo e 0 fun a => both (Nat.ble a b) (d (.x .slnil V.nil V.nil) e fun e' => k e' h)))
    fun id off len ver es => both (Nat.beq es esz) (hi e len fun b => both (Nat.ble b len) (lo e 0 fun a => both (Nat.ble a b) (d (.sl id (off + a * esz) (b - a) ver esz) e fun e' => k e' h)))
def sarrO (d : Dst) (esz n : Nat) (x : E → V) (lo hi : B?) : O := fun e h k =>
  onP (x e) fun id off lim ver => both (Nat.ble (off + n * esz) lim) (hi e n fun b => both (Nat.ble b n) (lo e 0 fun a => both (Nat.ble a b) (d (.sl id (off + a * esz) (b - a) ver esz) e fun e' => k e' h)))

/-- cells of a list, laid into a row that is made great enough first -/
def room (n : Nat) (c : Arr) : Arr := bs (Nat.ble n (acap c)) c (agrow c)
/-- copy n cells from one row into another one -/
def acopy (c : Arr) : (n i j : Nat) → Arr → Arr := Nat.rec (fun _ _ c' => c') (fun _ ih i j c' => ih (i + 1) (j + 1) (aset j (aget i c) c'))
/-- the bytes of a string as cells -/
def abytes : (l n j : Nat) → Arr → Arr := Nat.rec (fun _ _ c => c) (fun _ ih n j c => ih (n / 256) (j + 1) (aset j (.y (n % 256)) c))

/-- what is appended: how many elements, and how they are laid from place j on -/
def onSrc (esz : Nat) (v : V) (h : H) (k : (n : Nat) → (Nat → Arr → Arr) → Bool) : Bool :=
  V.rec (motive := fun _ => Bool) (fun _ => false) (fun _ => false) (fun _ => false) (fun l n => both (Nat.beq esz 1) (k l (fun j c => abytes l n j c))) (fun _ _ _ _ => false)
    (fun id off len ver es => both (Nat.beq es esz) (onBk (hget id h.tr) fun c size bver _ _ _ _ => both (Nat.beq ver bver) (k len (fun j c' => acopy c (len * esz) off j c'))))
    (fun g _ _ _ _ => Tag.rec (motive := fun _ => Bool) (fun _ _ => false) false (k 0 (fun _ c => c)) false false false false false false false false (fun _ => false) (fun _ => false) (fun _ => false) false false false g) v

def appO (d : Dst) (esz elem : Nat) (x y : E → V) : O := fun e h k =>
  both (Nat.ble 1 esz) (onSrc esz (y e) h fun n src => bs (Nat.beq n 0) (onSl (x e) (d (x e) e fun e' => k e' h) (fun _ _ _ _ _ => d (x e) e fun e' => k e' h))
    (onSl (x e)
      (both (Nat.ble (n * esz) 4096) (both (Nat.ble (h.next + 1) 262144) (d (.sl h.next 0 n 0 esz) e fun e' => k e' ⟨h.next + 1, hset h.next (.bk (src 0 (fresh (n * esz))) (n * esz) 0 0 elem false true) h.tr⟩)))
      fun id off len ver es => both (Nat.beq es esz) (onBk (hget id h.tr) fun c size bver frz el ex own =>
        both own (both (Nat.beq ver bver) (both (both (Nat.beq el elem) (Nat.ble frz (off + len * esz)))
          (bs (both (Nat.beq off 0) (Nat.beq (len * esz) size))
            (both (Nat.ble (size + n * esz) 4096) (d (.sl id 0 (len + n) (ver + 1) esz) e fun e' => k e' ⟨h.next, hset id (.bk (src size (room (size + n * esz) c)) (size + n * esz) (ver + 1) frz elem false true) h.tr⟩))
            (both (Nat.ble (len * esz + n * esz) 4096) (both (Nat.ble (h.next + 1) 262144) (d (.sl h.next 0 (len + n) 0 esz) e fun e' => k e'
              ⟨h.next + 1, hset h.next (.bk (src (len * esz) (acopy c (len * esz) off 0 (fresh (len * esz + n * esz)))) (len * esz + n * esz) 0 frz elem false true) (hset id .nb h.tr)⟩)))))))))

/-- string to bytes, bytes to string -/
def s2bO (d : Dst) (elem : Nat) (x : E → V) : O := fun e h k => onS (x e) fun l n =>
  both (Nat.ble l 4096) (both (Nat.ble (h.next + 1) 262144) (d (.sl h.next 0 l 0 1) e fun e' => k e' ⟨h.next + 1, hset h.next (.bk (abytes l n 0 (fresh l)) l 0 0 elem false true) h.tr⟩))
def packA (c : Arr) : (n i : Nat) → (Nat → Bool) → Bool := Nat.rec (fun _ k => k 0) (fun _ ih i k => V.rec (motive := fun _ => Bool) (fun _ => false) (fun b => ih (i + 1) fun r => k (b + 256 * r)) (fun _ => false) (fun _ _ => false) (fun _ _ _ _ => false) (fun _ _ _ _ _ => false) (fun _ _ _ _ _ => false) (aget i c))
def b2sO (d : Dst) (x : E → V) : O := fun e h k => onSl (x e) (d (.s 0 0) e fun e' => k e' h) fun id off len ver es => both (Nat.beq es 1)
  (onBk (hget id h.tr) fun c _ bver _ _ _ _ => both (Nat.beq ver bver) (packA c len off fun r => d (.s len r) e fun e' => k e' h))

/-- conversions of numbers -/
def toW (v : V) (k : V → Bool) : Bool := V.rec (motive := fun _ => Bool) (fun n => k (.w n)) (fun n => k (.w (n + bias))) (fun _ => false) (fun _ _ => false) (fun _ _ _ _ => false) (fun _ _ _ _ _ => false)
  (fun g _ _ _ _ => Tag.rec (motive := fun _ => Bool) (fun _ n => k (.w ((IntKind.wrap .i64 n + 9223372036854775808).toNat))) false false false false false false false false false false (fun _ => false) (fun _ => false) (fun _ => false) false false false g) v
def toY (v : V) (k : V → Bool) : Bool := V.rec (motive := fun _ => Bool) (fun n => k (.y (n % 256))) (fun n => k (.y n)) (fun _ => false) (fun _ _ => false) (fun _ _ _ _ => false) (fun _ _ _ _ _ => false)
  (fun g _ _ _ _ => Tag.rec (motive := fun _ => Bool) (fun _ n => k (.y ((IntKind.wrap .u8 n).toNat))) false false false false false false false false false false (fun _ => false) (fun _ => false) (fun _ => false) false false false g) v
def toI (q : IntKind) (v : V) (k : V → Bool) : Bool := V.rec (motive := fun _ => Bool) (fun n => k (mkI q (q.wrap ((n : Int) - 9223372036854775808)))) (fun n => k (mkI q (q.wrap (n : Int)))) (fun _ => false) (fun _ _ => false) (fun _ _ _ _ => false) (fun _ _ _ _ _ => false)
  (fun g _ _ _ _ => Tag.rec (motive := fun _ => Bool) (fun _ n => k (mkI q (q.wrap n))) false false false false false false false false false false (fun _ => false) (fun _ => false) (fun _ => false) false false false g) v

/-- lists of operands -/
abbrev L := E → V
def lN : L := fun _ => V.nil
def lC (x : E → V) (l : L) : L := fun e => .x .cons (x e) (l e)
def vapp (a b : V) : V := V.rec (motive := fun _ => V) (fun _ => b) (fun _ => b) (fun _ => b) (fun _ _ => b) (fun _ _ _ _ => b) (fun _ _ _ _ _ => b)
  (fun g hd _ _ ih => Tag.rec (motive := fun _ => V) (fun _ _ => b) b b b b b b b b (.x .cons hd ih) b (fun _ => b) (fun _ => b) (fun _ => b) b b b g) a

def callO (cf : CallF) (d : Dst) (f : Nat) (l : L) : O := fun e h k => cf f (l e) h fun v h' => d v e fun e' => k e' h'
def onFn (v : V) (k : Nat → V → V → Bool) : Bool := bs (vtgFn v) (k (xF v) (xA v) (xB v)) false
def callvO (cf : CallF) (d : Dst) (x : E → V) (l : L) : O := fun e h k => onFn (x e) fun f a b => cf f (vapp (vapp a (l e)) b) h fun v h' => d v e fun e' => k e' h'

/-- a tuple's part -/
def onTup (v : V) (k : V → Bool) : Bool := bs (vtgTup v) (k (xA v)) false
def vnth (l : V) : Nat → (V → Bool) → Bool := V.rec (motive := fun _ => Nat → (V → Bool) → Bool) (fun _ _ _ => false) (fun _ _ _ => false) (fun _ _ _ => false) (fun _ _ _ _ => false) (fun _ _ _ _ _ _ => false) (fun _ _ _ _ _ _ _ => false)
  (fun g hd _ _ ih n k => Tag.rec (motive := fun _ => Bool) (fun _ _ => false) false false false false false false false false (Nat.rec (motive := fun _ => Bool) (k hd) (fun m _ => ih m k) n) false (fun _ => false) (fun _ => false) (fun _ => false) false false false g) l
def extO (d : Dst) (x : E → V) (i : Nat) : O := unO (fun v k => onTup v fun l => vnth l i k) d x
/-- a list's part from place i on, n long -/
def vtake (l : V) : Nat → (V → Bool) → Bool := V.rec (motive := fun _ => Nat → (V → Bool) → Bool) (fun _ _ _ => false) (fun _ _ _ => false) (fun _ _ _ => false) (fun _ _ _ _ => false) (fun _ _ _ _ _ _ => false) (fun _ _ _ _ _ _ _ => false)
  (fun g hd _ _ ih n k => Tag.rec (motive := fun _ => Bool) (fun _ _ => false) false false false false false false false false (Nat.rec (motive := fun _ => Bool) (k V.nil) (fun m _ => ih m fun r => k (.x .cons hd r)) n)
    (Nat.rec (motive := fun _ => Bool) (k V.nil) (fun _ _ => false) n) (fun _ => false) (fun _ => false) (fun _ => false) false false false g) l
def vdrop (l : V) : Nat → (V → Bool) → Bool := V.rec (motive := fun _ => Nat → (V → Bool) → Bool) (fun _ _ _ => false) (fun _ _ _ => false) (fun _ _ _ => false) (fun _ _ _ _ => false) (fun _ _ _ _ _ _ => false) (fun _ _ _ _ _ _ _ => false)
  (fun g hd tl _ ih n k => Tag.rec (motive := fun _ => Bool) (fun _ _ => false) false false false false false false false false (Nat.rec (motive := fun _ => Bool) (k (.x .cons hd tl)) (fun m _ => ih m k) n)
    (Nat.rec (motive := fun _ => Bool) (k V.nil) (fun _ _ => false) n) (fun _ => false) (fun _ => false) (fun _ => false) false false false g) l
/-- a field of an aggregate -/
def fieldV (one : Bool) (o n : Nat) (v : V) (k : V → Bool) : Bool := onAgg v fun l => vdrop l o fun r => bs one (vnth r 0 k) (vtake r n fun q => k (.x .agg q V.nil))

/-- a list's part from place off on exchanged for another list -/
def vput (l : V) : (off : Nat) → V → (V → Bool) → Bool := V.rec (motive := fun _ => Nat → V → (V → Bool) → Bool) (fun _ _ _ _ => false) (fun _ _ _ _ => false) (fun _ _ _ _ => false) (fun _ _ _ _ _ => false) (fun _ _ _ _ _ _ _ => false) (fun _ _ _ _ _ _ _ _ => false)
  (fun g hd tl _ ih off vs k => Tag.rec (motive := fun _ => Bool) (fun _ _ => false) false false false false false false false false
    (Nat.rec (motive := fun _ => Bool)
      (V.rec (motive := fun _ => Bool) (fun _ => false) (fun _ => false) (fun _ => false) (fun _ _ => false) (fun _ _ _ _ => false) (fun _ _ _ _ _ => false)
        (fun g' v vr _ _ => Tag.rec (motive := fun _ => Bool) (fun _ _ => false) false false false false false false false false (ih 0 vr fun r => k (.x .cons v r)) (k (.x .cons hd tl)) (fun _ => false) (fun _ => false) (fun _ => false) false false false g') vs)
      (fun m _ => ih m vs fun r => k (.x .cons hd r)) off)
    (Nat.rec (motive := fun _ => Bool) (V.rec (motive := fun _ => Bool) (fun _ => false) (fun _ => false) (fun _ => false) (fun _ _ => false) (fun _ _ _ _ => false) (fun _ _ _ _ _ => false)
        (fun g' _ _ _ _ => Tag.rec (motive := fun _ => Bool) (fun _ _ => false) false false false false false false false false false (k V.nil) (fun _ => false) (fun _ => false) (fun _ => false) false false false g') vs) (fun _ _ => false) off) (fun _ => false) (fun _ => false) (fun _ => false) false false false g) l
/-- how long a list is -/
def vlen (l : V) : Nat := V.rec (motive := fun _ => Nat) (fun _ => 0) (fun _ => 0) (fun _ => 0) (fun _ _ => 0) (fun _ _ _ _ => 0) (fun _ _ _ _ _ => 0)
  (fun g _ _ _ ih => Tag.rec (motive := fun _ => Nat) (fun _ _ => 0) 0 0 0 0 0 0 0 0 (ih + 1) 0 (fun _ => 0) (fun _ => 0) (fun _ => 0) 0 0 0 g) l
/-- parts filled into a list: where, one cell or how many, what -/
abbrev Parts := E → V → (V → Bool) → Bool
def pN : Parts := fun _ l k => k l
def pC (off : Nat) (one : Bool) (n : Nat) (x : E → V) (r : Parts) : Parts := fun e l k =>
  bs one (both (Nat.beq n 1) (both (oneV (x e)) (vput l off (.x .cons (x e) V.nil) fun l' => r e l' k))) (onAgg (x e) fun q => both (Nat.beq (vlen q) n) (vput l off q fun l' => r e l' k))
def buildO (d : Dst) (z : V) (ps : Parts) : O := fun e h k => ps e z fun l => d (.x .agg l V.nil) e fun e' => k e' h
def bslO (d : Dst) (len esz elem : Nat) (z : V) (ps : Parts) : O := fun e h k => both (Nat.ble (len * esz) 4096) (both (Nat.ble (h.next + 1) 262144)
  (ps e z fun l => lay l (len * esz) 0 (fresh (len * esz)) fun c => d (.sl h.next 0 len 0 esz) e fun e' => k e' ⟨h.next + 1, hset h.next (.bk c (len * esz) 0 0 elem true true) h.tr⟩))
def mkfO (d : Dst) (f : Nat) (a b : L) : O := fun e h k => d (.x (.func f) (a e) (b e)) e fun e' => k e' h
def mkiO (d : Dst) (t : Nat) (x : E → V) : O := fun e h k => d (.x (.iface t) (x e) V.nil) e fun e' => k e' h

/-! code -/
def seqO (a b : O) : O := fun e h k => a e h fun e' h' => b e' h' k
def nilO : O := fun e h k => k e h
/-- only where place g holds b -/
def guardO (x : E → V) (b : Bool) (d : Dst) (o : O) : O := fun e h k =>
  V.rec (motive := fun _ => Bool) (fun _ => false) (fun _ => false) (fun t => bs (bs b t (nots t)) (o e h k) (d V.u e fun e' => k e' h))
    (fun _ _ => false) (fun _ _ _ _ => false) (fun _ _ _ _ _ => false)
    (fun g _ _ _ _ => Tag.rec (motive := fun _ => Bool) (fun _ _ => false) false false false false false (d V.u e fun e' => k e' h) false false false false (fun _ => false) (fun _ => false) (fun _ => false) false false false g) (x e)
def regM (o : O) : M := fun e h K => dropE e fun e1 => o e1 h fun e' h' => K .n e' h'
def seqM (a b : M) : M := fun e h K => a e h fun x e' h' => X.rec (motive := fun _ => Bool) (b e' h' K) (fun i => K (.x i) e' h') (K .r e' h') x
def seqR (o : O) (b : M) : M := fun e h K => dropE e fun e1 => o e1 h fun e' h' => b e' h' K
def condM (c : E → V) (a b : M) : M := fun e h K => onT (c e) fun t => bs t (a e h K) (b e h K)
def unX (i : Nat) (x : X) : X := X.rec (motive := fun _ => X) .n (fun j => bs (Nat.beq j i) .n (.x j)) .r x
def blockM (i : Nat) (a : M) : M := fun e h K => a e h fun x e' h' => K (unX i x) e' h'
def loopM (fuel : Nat) (a : M) : M := Nat.rec (motive := fun _ => M) (fun _ _ _ => false) (fun _ ih e h K => a e h fun x e' h' => X.rec (motive := fun _ => Bool) (ih e' h' K) (fun i => K (.x i) e' h') (K .r e' h') x) fuel
def exitM (i : Nat) : M := fun e h K => K (.x i) e h
def retM : M := fun e h K => K .r e h
def skipM : M := fun e h K => K .n e h
def noM : M := fun _ _ _ => false
def noO : O := fun _ _ _ => false

end
end Go.Avm
