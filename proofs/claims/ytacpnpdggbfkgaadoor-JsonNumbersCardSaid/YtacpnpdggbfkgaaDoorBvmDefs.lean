/- The abstract machine: a deterministic reading of the model's code, for runs that the kernel carries out. Conditions: none; what it proves stands in the texts behind it. -/
import Derived.Calls
set_option linter.unusedVariables false
namespace Go.Bvm

inductive Tag where
  | int (k : IntKind) (n : Int)
  | pnil | slnil | fnil | inil | mnil | undef | agg | tup | cons | nil
  | iface (t : Nat) | func (f : Nat) | map (id : Nat) | osl | nn | any

inductive V where
  | w (n : Nat)
  | y (n : Nat)
  | t (b : Bool)
  | s (l n : Nat)
  | p (id off lim ver : Nat)
  | sl (id off len ver esz : Nat)
  | x (g : Tag) (a b : V)

structure N8 (α : Type) where
  (c0 c1 c2 c3 c4 c5 c6 c7 : α)

inductive X where
  | n | x (id : Nat) | r

noncomputable section

abbrev V.nil : V := .x .nil (.w 0) (.w 0)
abbrev V.u : V := .x .undef V.nil V.nil
abbrev V.any : V := .x .any V.nil V.nil

/-- if, by the recursor -/
def bs {α : Type} (b : Bool) (x y : α) : α := Bool.rec (motive := fun _ => α) y x b
/-- b, and then k -/
def both (b k : Bool) : Bool := Bool.rec (motive := fun _ => Bool) false k b

def n8 {α : Type} (a : α) : N8 α := ⟨a, a, a, a, a, a, a, a⟩

def sel8c {α : Type} (d : Nat) (x : N8 α) : α := bs (Nat.ble 7 d) x.c7 x.c6
def sel8d {α : Type} (d : Nat) (x : N8 α) : α := bs (Nat.ble 5 d) x.c5 x.c4
def sel8e {α : Type} (d : Nat) (x : N8 α) : α := bs (Nat.ble 3 d) x.c3 x.c2
def sel8f {α : Type} (d : Nat) (x : N8 α) : α := bs (Nat.ble 1 d) x.c1 x.c0
def sel8a {α : Type} (d : Nat) (x : N8 α) : α := bs (Nat.ble 6 d) (sel8c d x) (sel8d d x)
def sel8b {α : Type} (d : Nat) (x : N8 α) : α := bs (Nat.ble 2 d) (sel8e d x) (sel8f d x)
def sel8 {α : Type} (d : Nat) (x : N8 α) : α := bs (Nat.ble 4 d) (sel8a d x) (sel8b d x)

def u0 {α : Type} (v : α) (x : N8 α) : N8 α := ⟨v, x.c1, x.c2, x.c3, x.c4, x.c5, x.c6, x.c7⟩
def u1 {α : Type} (v : α) (x : N8 α) : N8 α := ⟨x.c0, v, x.c2, x.c3, x.c4, x.c5, x.c6, x.c7⟩
def u2 {α : Type} (v : α) (x : N8 α) : N8 α := ⟨x.c0, x.c1, v, x.c3, x.c4, x.c5, x.c6, x.c7⟩
def u3 {α : Type} (v : α) (x : N8 α) : N8 α := ⟨x.c0, x.c1, x.c2, v, x.c4, x.c5, x.c6, x.c7⟩
def u4 {α : Type} (v : α) (x : N8 α) : N8 α := ⟨x.c0, x.c1, x.c2, x.c3, v, x.c5, x.c6, x.c7⟩
def u5 {α : Type} (v : α) (x : N8 α) : N8 α := ⟨x.c0, x.c1, x.c2, x.c3, x.c4, v, x.c6, x.c7⟩
def u6 {α : Type} (v : α) (x : N8 α) : N8 α := ⟨x.c0, x.c1, x.c2, x.c3, x.c4, x.c5, v, x.c7⟩
def u7 {α : Type} (v : α) (x : N8 α) : N8 α := ⟨x.c0, x.c1, x.c2, x.c3, x.c4, x.c5, x.c6, v⟩
def upd8a {α : Type} (d : Nat) (v : α) (x : N8 α) : N8 α := bs (Nat.ble 6 d) (bs (Nat.ble 7 d) (u7 v x) (u6 v x)) (bs (Nat.ble 5 d) (u5 v x) (u4 v x))
def upd8b {α : Type} (d : Nat) (v : α) (x : N8 α) : N8 α := bs (Nat.ble 2 d) (bs (Nat.ble 3 d) (u3 v x) (u2 v x)) (bs (Nat.ble 1 d) (u1 v x) (u0 v x))
def upd8 {α : Type} (d : Nat) (v : α) (x : N8 α) : N8 α := bs (Nat.ble 4 d) (upd8a d v x) (upd8b d v x)

/-- what is written within a region: the last first -/
inductive TL where
  | n | c (t : Nat) (v : V) (r : TL)
/-- the frame: 64 places that last -/
abbrev L8 := N8 (N8 V)
/-- an operation of a region that may run in several orders: which, the place that it has of those kept for new blocks, what must stand ahead of it, as bits; which loads are looked at again behind it; whether it is such a load -/
structure Od where
  i : Nat
  r : Nat
  m : Nat
  c : List Nat
  k : Bool
/-- a function's frame: how many places; which of them last; in which order the machine runs a region -/
structure Fr where
  n : Nat
  l : List Nat
  o : Nat → Option (Nat × List Od)
abbrev idx : List Nat → Nat → Option Nat
  | [], _ => none
  | x :: r, t => if x = t then some 0 else match idx r t with | some i => some (i + 1) | none => none
abbrev getL (i : Nat) (e : L8) : V := sel8 (i % 8) (sel8 (i / 8) e)
def updL (i : Nat) (v : V) (e : L8) : L8 := upd8 (i / 8) (upd8 (i % 8) v (sel8 (i / 8) e)) e
def e0 : L8 := n8 (n8 V.u)
/-- what a place holds: as written in the region, or as it lasts -/
abbrev getT (N : Fr) (t : Nat) : TL → L8 → V
  | .n, e => match idx N.l t with | some i => getL i e | none => V.any
  | .c u v r, e => if u = t then v else getT N t r e

/-- a row of cells: up to 8, or up to 4096 -/
abbrev A4 := N8 (N8 (N8 (N8 V)))
inductive Arr where
  | a1 (x : N8 V)
  | a4 (x : A4)
def z1 : N8 V := n8 V.u
def z4 : A4 := n8 (n8 (n8 z1))
def aget4 (i : Nat) (x : A4) : V := bs (Nat.ble 64 i) (sel8 (Nat.mod i 8) (sel8 (Nat.mod (Nat.div i 8) 8) (sel8 (Nat.mod (Nat.div i 64) 8) (sel8 (Nat.div i 512) x)))) (sel8 (Nat.mod i 8) (sel8 (Nat.div i 8) x.c0.c0))
def aget (i : Nat) (a : Arr) : V := Arr.rec (motive := fun _ => V) (fun x => sel8 i x) (fun x => aget4 i x) a
def aset4c (i : Nat) (v : V) (x : N8 (N8 V)) : N8 (N8 V) := upd8 (Nat.mod (Nat.div i 8) 8) (upd8 (Nat.mod i 8) v (sel8 (Nat.mod (Nat.div i 8) 8) x)) x
def aset4b (i : Nat) (v : V) (x : N8 (N8 (N8 V))) : N8 (N8 (N8 V)) := upd8 (Nat.mod (Nat.div i 64) 8) (aset4c i v (sel8 (Nat.mod (Nat.div i 64) 8) x)) x
def aset4 (i : Nat) (v : V) (x : A4) : A4 := bs (Nat.ble 64 i) (upd8 (Nat.div i 512) (aset4b i v (sel8 (Nat.div i 512) x)) x) (u0 (u0 (aset4c i v x.c0.c0) x.c0) x)
def aset (i : Nat) (v : V) (a : Arr) : Arr := Arr.rec (motive := fun _ => Arr) (fun x => .a1 (upd8 i v x)) (fun x => .a4 (aset4 i v x)) a
/-- how many cells there may be -/
def acap (a : Arr) : Nat := Arr.rec (motive := fun _ => Nat) (fun _ => 8) (fun _ => 4096) a
/-- the same row with room for more than 8 -/
def agrow (a : Arr) : Arr := Arr.rec (motive := fun _ => Arr) (fun x => .a4 ⟨⟨⟨x, z1, z1, z1, z1, z1, z1, z1⟩, n8 z1, n8 z1, n8 z1, n8 z1, n8 z1, n8 z1, n8 z1⟩, n8 (n8 z1), n8 (n8 z1), n8 (n8 z1), n8 (n8 z1), n8 (n8 z1), n8 (n8 z1), n8 (n8 z1)⟩) (fun x => .a4 x) a

inductive Blk where
  | nb
  | bk (c : Arr) (size ver frz elem : Nat) (ex own : Bool)
  | mp (kv : V)
  | it (l n pos : Nat)
  | pin (a b c : Nat)

abbrev T6 := N8 (N8 (N8 (N8 (N8 (N8 Blk)))))
def t6 : T6 := n8 (n8 (n8 (n8 (n8 (n8 .nb)))))
structure H where
  next : Nat
  tr : T6

def hget4 (i : Nat) (t : N8 (N8 (N8 (N8 Blk)))) : Blk := sel8 (Nat.mod i 8) (sel8 (Nat.mod (Nat.div i 8) 8) (sel8 (Nat.mod (Nat.div i 64) 8) (sel8 (Nat.mod (Nat.div i 512) 8) t)))
def hget6 (i : Nat) (t : T6) : Blk := hget4 i (sel8 (Nat.mod (Nat.div i 4096) 8) (sel8 (Nat.div i 32768) t))
def hget (i : Nat) (t : T6) : Blk := bs (Nat.ble 64 i) (bs (Nat.ble 4096 i) (hget6 i t) (hget4 i t.c0.c0)) (sel8 (Nat.mod i 8) (sel8 (Nat.div i 8) t.c0.c0.c0.c0))
def hsetf (i : Nat) (b : Blk) (x : N8 Blk) : N8 Blk := upd8 (Nat.mod i 8) b x
def hsete (i : Nat) (b : Blk) (x : N8 (N8 Blk)) : N8 (N8 Blk) := upd8 (Nat.mod (Nat.div i 8) 8) (hsetf i b (sel8 (Nat.mod (Nat.div i 8) 8) x)) x
def hsetd (i : Nat) (b : Blk) (x : N8 (N8 (N8 Blk))) : N8 (N8 (N8 Blk)) := upd8 (Nat.mod (Nat.div i 64) 8) (hsete i b (sel8 (Nat.mod (Nat.div i 64) 8) x)) x
def hsetc (i : Nat) (b : Blk) (x : N8 (N8 (N8 (N8 Blk)))) : N8 (N8 (N8 (N8 Blk))) := upd8 (Nat.mod (Nat.div i 512) 8) (hsetd i b (sel8 (Nat.mod (Nat.div i 512) 8) x)) x
def hsetb (i : Nat) (b : Blk) (x : N8 (N8 (N8 (N8 (N8 Blk))))) : N8 (N8 (N8 (N8 (N8 Blk)))) := upd8 (Nat.mod (Nat.div i 4096) 8) (hsetc i b (sel8 (Nat.mod (Nat.div i 4096) 8) x)) x
def hset6 (i : Nat) (b : Blk) (t : T6) : T6 := upd8 (Nat.div i 32768) (hsetb i b (sel8 (Nat.div i 32768) t)) t
def hset (i : Nat) (b : Blk) (t : T6) : T6 := bs (Nat.ble 64 i) (bs (Nat.ble 4096 i) (hset6 i b t) (u0 (u0 (hsetc i b t.c0.c0) t.c0) t)) (u0 (u0 (u0 (u0 (hsete i b t.c0.c0.c0.c0) t.c0.c0.c0) t.c0.c0) t.c0) t)

abbrev KV := V → H → Bool
abbrev KE := L8 → H → Bool
abbrev KT := TL → L8 → H → Bool
abbrev KX := X → L8 → H → Bool
abbrev M := L8 → H → KX → Bool
abbrev CallF := Nat → V → H → KV → Bool

end
end Go.Bvm
