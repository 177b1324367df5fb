/- The abstract machine: what it is, and how it is held against the model. Conditions: stated in each theorem. -/
import Derived.Calls
import Derived.Laws.Sem
import Derived.Below
import Derived.Lib.ItoaNum
set_option linter.unusedVariables false
set_option linter.unusedSimpArgs false
set_option linter.unusedVariables false
namespace Go.Bvm
inductive Tag where
 | int (k:IntKind) (n:Int)
 | pnil | slnil | fnil | inil | mnil | undef | agg | tup | cons | nil
 | iface (t:Nat) | func (f:Nat) | map (id:Nat) | osl | nn | any
inductive V where
 | w (n:Nat)
 | y (n:Nat)
 | t (b:Bool)
 | s (l n:Nat)
 | p (id off lim ver:Nat)
 | sl (id off len ver esz:Nat)
 | x (g:Tag) (a b:V)
structure N8 (α:Type) where
 (c0 c1 c2 c3 c4 c5 c6 c7:α)
inductive X where
 | n | x (id:Nat) | r
noncomputable section
abbrev V.nil:V:=.x .nil (.w 0) (.w 0)
abbrev vc (a b:V):V:=.x .cons a b
abbrev V.u:V:=.x .undef V.nil V.nil
abbrev V.any:V:=.x .any V.nil V.nil
def bs {α:Type} (b:Bool) (x y:α):α:=Bool.rec (motive:=fun _=>α) y x b
def both (b k:Bool):Bool:=Bool.rec (motive:=fun _=>Bool) false k b
def n8 {α:Type} (a:α):N8 α:=⟨a,a,a,a,a,a,a,a⟩
def sel8c {α:Type} (d:Nat) (x:N8 α):α:=bs (Nat.ble 7 d) x.c7 x.c6
def sel8d {α:Type} (d:Nat) (x:N8 α):α:=bs (Nat.ble 5 d) x.c5 x.c4
def sel8e {α:Type} (d:Nat) (x:N8 α):α:=bs (Nat.ble 3 d) x.c3 x.c2
def sel8f {α:Type} (d:Nat) (x:N8 α):α:=bs (Nat.ble 1 d) x.c1 x.c0
def sel8a {α:Type} (d:Nat) (x:N8 α):α:=bs (Nat.ble 6 d) (sel8c d x) (sel8d d x)
def sel8b {α:Type} (d:Nat) (x:N8 α):α:=bs (Nat.ble 2 d) (sel8e d x) (sel8f d x)
def sel8 {α:Type} (d:Nat) (x:N8 α):α:=bs (Nat.ble 4 d) (sel8a d x) (sel8b d x)
def u0 {α:Type} (v:α) (x:N8 α):N8 α:=⟨v,x.c1,x.c2,x.c3,x.c4,x.c5,x.c6,x.c7⟩
def u1 {α:Type} (v:α) (x:N8 α):N8 α:=⟨x.c0,v,x.c2,x.c3,x.c4,x.c5,x.c6,x.c7⟩
def u2 {α:Type} (v:α) (x:N8 α):N8 α:=⟨x.c0,x.c1,v,x.c3,x.c4,x.c5,x.c6,x.c7⟩
def u3 {α:Type} (v:α) (x:N8 α):N8 α:=⟨x.c0,x.c1,x.c2,v,x.c4,x.c5,x.c6,x.c7⟩
def u4 {α:Type} (v:α) (x:N8 α):N8 α:=⟨x.c0,x.c1,x.c2,x.c3,v,x.c5,x.c6,x.c7⟩
def u5 {α:Type} (v:α) (x:N8 α):N8 α:=⟨x.c0,x.c1,x.c2,x.c3,x.c4,v,x.c6,x.c7⟩
def u6 {α:Type} (v:α) (x:N8 α):N8 α:=⟨x.c0,x.c1,x.c2,x.c3,x.c4,x.c5,v,x.c7⟩
def u7 {α:Type} (v:α) (x:N8 α):N8 α:=⟨x.c0,x.c1,x.c2,x.c3,x.c4,x.c5,x.c6,v⟩
def upd8a {α:Type} (d:Nat) (v:α) (x:N8 α):N8 α:=bs (Nat.ble 6 d) (bs (Nat.ble 7 d) (u7 v x) (u6 v x)) (bs (Nat.ble 5 d) (u5 v x) (u4 v x))
def upd8b {α:Type} (d:Nat) (v:α) (x:N8 α):N8 α:=bs (Nat.ble 2 d) (bs (Nat.ble 3 d) (u3 v x) (u2 v x)) (bs (Nat.ble 1 d) (u1 v x) (u0 v x))
def upd8 {α:Type} (d:Nat) (v:α) (x:N8 α):N8 α:=bs (Nat.ble 4 d) (upd8a d v x) (upd8b d v x)
inductive TL where
 | n | c (t:Nat) (v:V) (r:TL)
abbrev L8:=N8 (N8 V)
structure Od where
 i:Nat
 r:Nat
 m:Nat
 c:List Nat
 k:Bool
abbrev od (i m:Nat):Od:=⟨i,0,m,[],false⟩
structure Fr where
 n:Nat
 l:List Nat
 o:Nat→Option (Nat×List Od)
abbrev idx:List Nat→Nat→Option Nat
 | [],_=>none
 | x::r,t=>if x=t then some 0 else match idx r t with | some i=>some (i+1) | none=>none
abbrev getL (i:Nat) (e:L8):V:=sel8 (i % 8) (sel8 (i / 8) e)
def updL (i:Nat) (v:V) (e:L8):L8:=upd8 (i / 8) (upd8 (i % 8) v (sel8 (i / 8) e)) e
def e0:L8:=n8 (n8 V.u)
abbrev getT (N:Fr) (t:Nat):TL→L8→V
 | .n,e=>match idx N.l t with | some i=>getL i e | none=>V.any
 | .c u v r,e=>if u=t then v else getT N t r e
abbrev A4:=N8 (N8 (N8 (N8 V)))
inductive Arr where
 | a1 (x:N8 V)
 | a4 (x:A4)
 | al (n:Nat) (f:Nat→V)
def z1:N8 V:=n8 V.u
def z4:A4:=n8 (n8 (n8 z1))
def aget4 (i:Nat) (x:A4):V:=bs (Nat.ble 64 i) (sel8 (Nat.mod i 8) (sel8 (Nat.mod (Nat.div i 8) 8) (sel8 (Nat.mod (Nat.div i 64) 8) (sel8 (Nat.div i 512) x)))) (sel8 (Nat.mod i 8) (sel8 (Nat.div i 8) x.c0.c0))
def aget (i:Nat) (a:Arr):V:=Arr.rec (motive:=fun _=>V) (fun x=>sel8 i x) (fun x=>aget4 i x) (fun _ f=>f i) a
def aset4c (i:Nat) (v:V) (x:N8 (N8 V)):N8 (N8 V):=upd8 (Nat.mod (Nat.div i 8) 8) (upd8 (Nat.mod i 8) v (sel8 (Nat.mod (Nat.div i 8) 8) x)) x
def aset4b (i:Nat) (v:V) (x:N8 (N8 (N8 V))):N8 (N8 (N8 V)):=upd8 (Nat.mod (Nat.div i 64) 8) (aset4c i v (sel8 (Nat.mod (Nat.div i 64) 8) x)) x
def aset4 (i:Nat) (v:V) (x:A4):A4:=bs (Nat.ble 64 i) (upd8 (Nat.div i 512) (aset4b i v (sel8 (Nat.div i 512) x)) x) (u0 (u0 (aset4c i v x.c0.c0) x.c0) x)
def aset (i:Nat) (v:V) (a:Arr):Arr:=Arr.rec (motive:=fun _=>Arr) (fun x=>.a1 (upd8 i v x)) (fun x=>.a4 (aset4 i v x)) (fun n f=>.al n fun j=>bs (Nat.beq j i) v (f j)) a
def acap (a:Arr):Nat:=Arr.rec (motive:=fun _=>Nat) (fun _=>8) (fun _=>4096) (fun n _=>n) a
def agrow (a:Arr):Arr:=Arr.rec (motive:=fun _=>Arr) (fun x=>.a4 ⟨⟨⟨x,z1,z1,z1,z1,z1,z1,z1⟩,n8 z1,n8 z1,n8 z1,n8 z1,n8 z1,n8 z1,n8 z1⟩,n8 (n8 z1),n8 (n8 z1),n8 (n8 z1),n8 (n8 z1),n8 (n8 z1),n8 (n8 z1),n8 (n8 z1)⟩) (fun x=>.a4 x) (fun _ f=>.al 4096 f) a
def agrowTo (n:Nat) (a:Arr):Arr:=bs (Nat.ble n 4096) (agrow a) (.al n fun i=>aget i a)
inductive Blk where
 | nb
 | bk (c:Arr) (size ver frz elem:Nat) (ex own:Bool)
 | mp (kv:V)
 | it (l n pos:Nat)
 | pin (a b c:Nat)
abbrev T6a:=N8 (N8 (N8 (N8 (N8 (N8 Blk)))))
structure T6 where
 a:T6a
 f:Nat→Blk
def t6:T6:=⟨n8 (n8 (n8 (n8 (n8 (n8 .nb))))),fun _=>.nb⟩
structure H where
 next:Nat
 tr:T6
def hget4 (i:Nat) (t:N8 (N8 (N8 (N8 Blk)))):Blk:=sel8 (Nat.mod i 8) (sel8 (Nat.mod (Nat.div i 8) 8) (sel8 (Nat.mod (Nat.div i 64) 8) (sel8 (Nat.mod (Nat.div i 512) 8) t)))
def hget6 (i:Nat) (t:T6a):Blk:=hget4 i (sel8 (Nat.mod (Nat.div i 4096) 8) (sel8 (Nat.div i 32768) t))
def hgeta (i:Nat) (t:T6a):Blk:=bs (Nat.ble 64 i) (bs (Nat.ble 4096 i) (hget6 i t) (hget4 i t.c0.c0)) (sel8 (Nat.mod i 8) (sel8 (Nat.div i 8) t.c0.c0.c0.c0))
def hget (i:Nat) (t:T6):Blk:=bs (Nat.ble 262144 i) (t.f (Nat.sub i 262144)) (hgeta i t.a)
def hsetf (i:Nat) (b:Blk) (x:N8 Blk):N8 Blk:=upd8 (Nat.mod i 8) b x
def hsete (i:Nat) (b:Blk) (x:N8 (N8 Blk)):N8 (N8 Blk):=upd8 (Nat.mod (Nat.div i 8) 8) (hsetf i b (sel8 (Nat.mod (Nat.div i 8) 8) x)) x
def hsetd (i:Nat) (b:Blk) (x:N8 (N8 (N8 Blk))):N8 (N8 (N8 Blk)):=upd8 (Nat.mod (Nat.div i 64) 8) (hsete i b (sel8 (Nat.mod (Nat.div i 64) 8) x)) x
def hsetc (i:Nat) (b:Blk) (x:N8 (N8 (N8 (N8 Blk)))):N8 (N8 (N8 (N8 Blk))):=upd8 (Nat.mod (Nat.div i 512) 8) (hsetd i b (sel8 (Nat.mod (Nat.div i 512) 8) x)) x
def hsetb (i:Nat) (b:Blk) (x:N8 (N8 (N8 (N8 (N8 Blk))))):N8 (N8 (N8 (N8 (N8 Blk)))):=upd8 (Nat.mod (Nat.div i 4096) 8) (hsetc i b (sel8 (Nat.mod (Nat.div i 4096) 8) x)) x
def hset6 (i:Nat) (b:Blk) (t:T6a):T6a:=upd8 (Nat.div i 32768) (hsetb i b (sel8 (Nat.div i 32768) t)) t
def hseta (i:Nat) (b:Blk) (t:T6a):T6a:=bs (Nat.ble 64 i) (bs (Nat.ble 4096 i) (hset6 i b t) (u0 (u0 (hsetc i b t.c0.c0) t.c0) t)) (u0 (u0 (u0 (u0 (hsete i b t.c0.c0.c0.c0) t.c0.c0.c0) t.c0.c0) t.c0) t)
def hsetx (i:Nat) (b:Blk) (f:Nat→Blk):Nat→Blk:=fun j=>bs (Nat.beq j i) b (f j)
def hset (i:Nat) (b:Blk) (t:T6):T6:=T6.rec (motive:=fun _=>T6) (fun a f=>bs (Nat.ble 262144 i) ⟨a,hsetx (Nat.sub i 262144) b f⟩ ⟨hseta i b a,f⟩) t
abbrev KV:=V→H→Bool
abbrev KT:=TL→L8→H→Bool
abbrev KX:=X→L8→H→Bool
abbrev M:=L8→H→KX→Bool
abbrev CallF:=Nat→V→H→KV→Bool
end
end Go.Bvm
set_option linter.unusedVariables false
namespace Go.Bvm
noncomputable section
def sl0 (v:V) (e:L8) (k:L8→Bool):Bool:=N8.rec (motive:=fun _=>Bool) (fun x0 x1 x2 x3 x4 x5 x6 x7=>N8.rec (motive:=fun _=>Bool) (fun y0 y1 y2 y3 y4 y5 y6 y7=>k ⟨⟨v,y1,y2,y3,y4,y5,y6,y7⟩,x1,x2,x3,x4,x5,x6,x7⟩) x0) e
def sl1 (v:V) (e:L8) (k:L8→Bool):Bool:=N8.rec (motive:=fun _=>Bool) (fun x0 x1 x2 x3 x4 x5 x6 x7=>N8.rec (motive:=fun _=>Bool) (fun y0 y1 y2 y3 y4 y5 y6 y7=>k ⟨⟨y0,v,y2,y3,y4,y5,y6,y7⟩,x1,x2,x3,x4,x5,x6,x7⟩) x0) e
def sl2 (v:V) (e:L8) (k:L8→Bool):Bool:=N8.rec (motive:=fun _=>Bool) (fun x0 x1 x2 x3 x4 x5 x6 x7=>N8.rec (motive:=fun _=>Bool) (fun y0 y1 y2 y3 y4 y5 y6 y7=>k ⟨⟨y0,y1,v,y3,y4,y5,y6,y7⟩,x1,x2,x3,x4,x5,x6,x7⟩) x0) e
def sl3 (v:V) (e:L8) (k:L8→Bool):Bool:=N8.rec (motive:=fun _=>Bool) (fun x0 x1 x2 x3 x4 x5 x6 x7=>N8.rec (motive:=fun _=>Bool) (fun y0 y1 y2 y3 y4 y5 y6 y7=>k ⟨⟨y0,y1,y2,v,y4,y5,y6,y7⟩,x1,x2,x3,x4,x5,x6,x7⟩) x0) e
def sl4 (v:V) (e:L8) (k:L8→Bool):Bool:=N8.rec (motive:=fun _=>Bool) (fun x0 x1 x2 x3 x4 x5 x6 x7=>N8.rec (motive:=fun _=>Bool) (fun y0 y1 y2 y3 y4 y5 y6 y7=>k ⟨⟨y0,y1,y2,y3,v,y5,y6,y7⟩,x1,x2,x3,x4,x5,x6,x7⟩) x0) e
def sl5 (v:V) (e:L8) (k:L8→Bool):Bool:=N8.rec (motive:=fun _=>Bool) (fun x0 x1 x2 x3 x4 x5 x6 x7=>N8.rec (motive:=fun _=>Bool) (fun y0 y1 y2 y3 y4 y5 y6 y7=>k ⟨⟨y0,y1,y2,y3,y4,v,y6,y7⟩,x1,x2,x3,x4,x5,x6,x7⟩) x0) e
def sl6 (v:V) (e:L8) (k:L8→Bool):Bool:=N8.rec (motive:=fun _=>Bool) (fun x0 x1 x2 x3 x4 x5 x6 x7=>N8.rec (motive:=fun _=>Bool) (fun y0 y1 y2 y3 y4 y5 y6 y7=>k ⟨⟨y0,y1,y2,y3,y4,y5,v,y7⟩,x1,x2,x3,x4,x5,x6,x7⟩) x0) e
def sl7 (v:V) (e:L8) (k:L8→Bool):Bool:=N8.rec (motive:=fun _=>Bool) (fun x0 x1 x2 x3 x4 x5 x6 x7=>N8.rec (motive:=fun _=>Bool) (fun y0 y1 y2 y3 y4 y5 y6 y7=>k ⟨⟨y0,y1,y2,y3,y4,y5,y6,v⟩,x1,x2,x3,x4,x5,x6,x7⟩) x0) e
def sl8 (v:V) (e:L8) (k:L8→Bool):Bool:=N8.rec (motive:=fun _=>Bool) (fun x0 x1 x2 x3 x4 x5 x6 x7=>N8.rec (motive:=fun _=>Bool) (fun y0 y1 y2 y3 y4 y5 y6 y7=>k ⟨x0,⟨v,y1,y2,y3,y4,y5,y6,y7⟩,x2,x3,x4,x5,x6,x7⟩) x1) e
def sl9 (v:V) (e:L8) (k:L8→Bool):Bool:=N8.rec (motive:=fun _=>Bool) (fun x0 x1 x2 x3 x4 x5 x6 x7=>N8.rec (motive:=fun _=>Bool) (fun y0 y1 y2 y3 y4 y5 y6 y7=>k ⟨x0,⟨y0,v,y2,y3,y4,y5,y6,y7⟩,x2,x3,x4,x5,x6,x7⟩) x1) e
def sl10 (v:V) (e:L8) (k:L8→Bool):Bool:=N8.rec (motive:=fun _=>Bool) (fun x0 x1 x2 x3 x4 x5 x6 x7=>N8.rec (motive:=fun _=>Bool) (fun y0 y1 y2 y3 y4 y5 y6 y7=>k ⟨x0,⟨y0,y1,v,y3,y4,y5,y6,y7⟩,x2,x3,x4,x5,x6,x7⟩) x1) e
def sl11 (v:V) (e:L8) (k:L8→Bool):Bool:=N8.rec (motive:=fun _=>Bool) (fun x0 x1 x2 x3 x4 x5 x6 x7=>N8.rec (motive:=fun _=>Bool) (fun y0 y1 y2 y3 y4 y5 y6 y7=>k ⟨x0,⟨y0,y1,y2,v,y4,y5,y6,y7⟩,x2,x3,x4,x5,x6,x7⟩) x1) e
def sl12 (v:V) (e:L8) (k:L8→Bool):Bool:=N8.rec (motive:=fun _=>Bool) (fun x0 x1 x2 x3 x4 x5 x6 x7=>N8.rec (motive:=fun _=>Bool) (fun y0 y1 y2 y3 y4 y5 y6 y7=>k ⟨x0,⟨y0,y1,y2,y3,v,y5,y6,y7⟩,x2,x3,x4,x5,x6,x7⟩) x1) e
def sl13 (v:V) (e:L8) (k:L8→Bool):Bool:=N8.rec (motive:=fun _=>Bool) (fun x0 x1 x2 x3 x4 x5 x6 x7=>N8.rec (motive:=fun _=>Bool) (fun y0 y1 y2 y3 y4 y5 y6 y7=>k ⟨x0,⟨y0,y1,y2,y3,y4,v,y6,y7⟩,x2,x3,x4,x5,x6,x7⟩) x1) e
def sl14 (v:V) (e:L8) (k:L8→Bool):Bool:=N8.rec (motive:=fun _=>Bool) (fun x0 x1 x2 x3 x4 x5 x6 x7=>N8.rec (motive:=fun _=>Bool) (fun y0 y1 y2 y3 y4 y5 y6 y7=>k ⟨x0,⟨y0,y1,y2,y3,y4,y5,v,y7⟩,x2,x3,x4,x5,x6,x7⟩) x1) e
def sl15 (v:V) (e:L8) (k:L8→Bool):Bool:=N8.rec (motive:=fun _=>Bool) (fun x0 x1 x2 x3 x4 x5 x6 x7=>N8.rec (motive:=fun _=>Bool) (fun y0 y1 y2 y3 y4 y5 y6 y7=>k ⟨x0,⟨y0,y1,y2,y3,y4,y5,y6,v⟩,x2,x3,x4,x5,x6,x7⟩) x1) e
def sl16 (v:V) (e:L8) (k:L8→Bool):Bool:=N8.rec (motive:=fun _=>Bool) (fun x0 x1 x2 x3 x4 x5 x6 x7=>N8.rec (motive:=fun _=>Bool) (fun y0 y1 y2 y3 y4 y5 y6 y7=>k ⟨x0,x1,⟨v,y1,y2,y3,y4,y5,y6,y7⟩,x3,x4,x5,x6,x7⟩) x2) e
def sl17 (v:V) (e:L8) (k:L8→Bool):Bool:=N8.rec (motive:=fun _=>Bool) (fun x0 x1 x2 x3 x4 x5 x6 x7=>N8.rec (motive:=fun _=>Bool) (fun y0 y1 y2 y3 y4 y5 y6 y7=>k ⟨x0,x1,⟨y0,v,y2,y3,y4,y5,y6,y7⟩,x3,x4,x5,x6,x7⟩) x2) e
def sl18 (v:V) (e:L8) (k:L8→Bool):Bool:=N8.rec (motive:=fun _=>Bool) (fun x0 x1 x2 x3 x4 x5 x6 x7=>N8.rec (motive:=fun _=>Bool) (fun y0 y1 y2 y3 y4 y5 y6 y7=>k ⟨x0,x1,⟨y0,y1,v,y3,y4,y5,y6,y7⟩,x3,x4,x5,x6,x7⟩) x2) e
def sl19 (v:V) (e:L8) (k:L8→Bool):Bool:=N8.rec (motive:=fun _=>Bool) (fun x0 x1 x2 x3 x4 x5 x6 x7=>N8.rec (motive:=fun _=>Bool) (fun y0 y1 y2 y3 y4 y5 y6 y7=>k ⟨x0,x1,⟨y0,y1,y2,v,y4,y5,y6,y7⟩,x3,x4,x5,x6,x7⟩) x2) e
def sl20 (v:V) (e:L8) (k:L8→Bool):Bool:=N8.rec (motive:=fun _=>Bool) (fun x0 x1 x2 x3 x4 x5 x6 x7=>N8.rec (motive:=fun _=>Bool) (fun y0 y1 y2 y3 y4 y5 y6 y7=>k ⟨x0,x1,⟨y0,y1,y2,y3,v,y5,y6,y7⟩,x3,x4,x5,x6,x7⟩) x2) e
def sl21 (v:V) (e:L8) (k:L8→Bool):Bool:=N8.rec (motive:=fun _=>Bool) (fun x0 x1 x2 x3 x4 x5 x6 x7=>N8.rec (motive:=fun _=>Bool) (fun y0 y1 y2 y3 y4 y5 y6 y7=>k ⟨x0,x1,⟨y0,y1,y2,y3,y4,v,y6,y7⟩,x3,x4,x5,x6,x7⟩) x2) e
def sl22 (v:V) (e:L8) (k:L8→Bool):Bool:=N8.rec (motive:=fun _=>Bool) (fun x0 x1 x2 x3 x4 x5 x6 x7=>N8.rec (motive:=fun _=>Bool) (fun y0 y1 y2 y3 y4 y5 y6 y7=>k ⟨x0,x1,⟨y0,y1,y2,y3,y4,y5,v,y7⟩,x3,x4,x5,x6,x7⟩) x2) e
def sl23 (v:V) (e:L8) (k:L8→Bool):Bool:=N8.rec (motive:=fun _=>Bool) (fun x0 x1 x2 x3 x4 x5 x6 x7=>N8.rec (motive:=fun _=>Bool) (fun y0 y1 y2 y3 y4 y5 y6 y7=>k ⟨x0,x1,⟨y0,y1,y2,y3,y4,y5,y6,v⟩,x3,x4,x5,x6,x7⟩) x2) e
def sl24 (v:V) (e:L8) (k:L8→Bool):Bool:=N8.rec (motive:=fun _=>Bool) (fun x0 x1 x2 x3 x4 x5 x6 x7=>N8.rec (motive:=fun _=>Bool) (fun y0 y1 y2 y3 y4 y5 y6 y7=>k ⟨x0,x1,x2,⟨v,y1,y2,y3,y4,y5,y6,y7⟩,x4,x5,x6,x7⟩) x3) e
def sl25 (v:V) (e:L8) (k:L8→Bool):Bool:=N8.rec (motive:=fun _=>Bool) (fun x0 x1 x2 x3 x4 x5 x6 x7=>N8.rec (motive:=fun _=>Bool) (fun y0 y1 y2 y3 y4 y5 y6 y7=>k ⟨x0,x1,x2,⟨y0,v,y2,y3,y4,y5,y6,y7⟩,x4,x5,x6,x7⟩) x3) e
def sl26 (v:V) (e:L8) (k:L8→Bool):Bool:=N8.rec (motive:=fun _=>Bool) (fun x0 x1 x2 x3 x4 x5 x6 x7=>N8.rec (motive:=fun _=>Bool) (fun y0 y1 y2 y3 y4 y5 y6 y7=>k ⟨x0,x1,x2,⟨y0,y1,v,y3,y4,y5,y6,y7⟩,x4,x5,x6,x7⟩) x3) e
def sl27 (v:V) (e:L8) (k:L8→Bool):Bool:=N8.rec (motive:=fun _=>Bool) (fun x0 x1 x2 x3 x4 x5 x6 x7=>N8.rec (motive:=fun _=>Bool) (fun y0 y1 y2 y3 y4 y5 y6 y7=>k ⟨x0,x1,x2,⟨y0,y1,y2,v,y4,y5,y6,y7⟩,x4,x5,x6,x7⟩) x3) e
def sl28 (v:V) (e:L8) (k:L8→Bool):Bool:=N8.rec (motive:=fun _=>Bool) (fun x0 x1 x2 x3 x4 x5 x6 x7=>N8.rec (motive:=fun _=>Bool) (fun y0 y1 y2 y3 y4 y5 y6 y7=>k ⟨x0,x1,x2,⟨y0,y1,y2,y3,v,y5,y6,y7⟩,x4,x5,x6,x7⟩) x3) e
def sl29 (v:V) (e:L8) (k:L8→Bool):Bool:=N8.rec (motive:=fun _=>Bool) (fun x0 x1 x2 x3 x4 x5 x6 x7=>N8.rec (motive:=fun _=>Bool) (fun y0 y1 y2 y3 y4 y5 y6 y7=>k ⟨x0,x1,x2,⟨y0,y1,y2,y3,y4,v,y6,y7⟩,x4,x5,x6,x7⟩) x3) e
def sl30 (v:V) (e:L8) (k:L8→Bool):Bool:=N8.rec (motive:=fun _=>Bool) (fun x0 x1 x2 x3 x4 x5 x6 x7=>N8.rec (motive:=fun _=>Bool) (fun y0 y1 y2 y3 y4 y5 y6 y7=>k ⟨x0,x1,x2,⟨y0,y1,y2,y3,y4,y5,v,y7⟩,x4,x5,x6,x7⟩) x3) e
def sl31 (v:V) (e:L8) (k:L8→Bool):Bool:=N8.rec (motive:=fun _=>Bool) (fun x0 x1 x2 x3 x4 x5 x6 x7=>N8.rec (motive:=fun _=>Bool) (fun y0 y1 y2 y3 y4 y5 y6 y7=>k ⟨x0,x1,x2,⟨y0,y1,y2,y3,y4,y5,y6,v⟩,x4,x5,x6,x7⟩) x3) e
def sl32 (v:V) (e:L8) (k:L8→Bool):Bool:=N8.rec (motive:=fun _=>Bool) (fun x0 x1 x2 x3 x4 x5 x6 x7=>N8.rec (motive:=fun _=>Bool) (fun y0 y1 y2 y3 y4 y5 y6 y7=>k ⟨x0,x1,x2,x3,⟨v,y1,y2,y3,y4,y5,y6,y7⟩,x5,x6,x7⟩) x4) e
def sl33 (v:V) (e:L8) (k:L8→Bool):Bool:=N8.rec (motive:=fun _=>Bool) (fun x0 x1 x2 x3 x4 x5 x6 x7=>N8.rec (motive:=fun _=>Bool) (fun y0 y1 y2 y3 y4 y5 y6 y7=>k ⟨x0,x1,x2,x3,⟨y0,v,y2,y3,y4,y5,y6,y7⟩,x5,x6,x7⟩) x4) e
def sl34 (v:V) (e:L8) (k:L8→Bool):Bool:=N8.rec (motive:=fun _=>Bool) (fun x0 x1 x2 x3 x4 x5 x6 x7=>N8.rec (motive:=fun _=>Bool) (fun y0 y1 y2 y3 y4 y5 y6 y7=>k ⟨x0,x1,x2,x3,⟨y0,y1,v,y3,y4,y5,y6,y7⟩,x5,x6,x7⟩) x4) e
def sl35 (v:V) (e:L8) (k:L8→Bool):Bool:=N8.rec (motive:=fun _=>Bool) (fun x0 x1 x2 x3 x4 x5 x6 x7=>N8.rec (motive:=fun _=>Bool) (fun y0 y1 y2 y3 y4 y5 y6 y7=>k ⟨x0,x1,x2,x3,⟨y0,y1,y2,v,y4,y5,y6,y7⟩,x5,x6,x7⟩) x4) e
def sl36 (v:V) (e:L8) (k:L8→Bool):Bool:=N8.rec (motive:=fun _=>Bool) (fun x0 x1 x2 x3 x4 x5 x6 x7=>N8.rec (motive:=fun _=>Bool) (fun y0 y1 y2 y3 y4 y5 y6 y7=>k ⟨x0,x1,x2,x3,⟨y0,y1,y2,y3,v,y5,y6,y7⟩,x5,x6,x7⟩) x4) e
def sl37 (v:V) (e:L8) (k:L8→Bool):Bool:=N8.rec (motive:=fun _=>Bool) (fun x0 x1 x2 x3 x4 x5 x6 x7=>N8.rec (motive:=fun _=>Bool) (fun y0 y1 y2 y3 y4 y5 y6 y7=>k ⟨x0,x1,x2,x3,⟨y0,y1,y2,y3,y4,v,y6,y7⟩,x5,x6,x7⟩) x4) e
def sl38 (v:V) (e:L8) (k:L8→Bool):Bool:=N8.rec (motive:=fun _=>Bool) (fun x0 x1 x2 x3 x4 x5 x6 x7=>N8.rec (motive:=fun _=>Bool) (fun y0 y1 y2 y3 y4 y5 y6 y7=>k ⟨x0,x1,x2,x3,⟨y0,y1,y2,y3,y4,y5,v,y7⟩,x5,x6,x7⟩) x4) e
def sl39 (v:V) (e:L8) (k:L8→Bool):Bool:=N8.rec (motive:=fun _=>Bool) (fun x0 x1 x2 x3 x4 x5 x6 x7=>N8.rec (motive:=fun _=>Bool) (fun y0 y1 y2 y3 y4 y5 y6 y7=>k ⟨x0,x1,x2,x3,⟨y0,y1,y2,y3,y4,y5,y6,v⟩,x5,x6,x7⟩) x4) e
def sl40 (v:V) (e:L8) (k:L8→Bool):Bool:=N8.rec (motive:=fun _=>Bool) (fun x0 x1 x2 x3 x4 x5 x6 x7=>N8.rec (motive:=fun _=>Bool) (fun y0 y1 y2 y3 y4 y5 y6 y7=>k ⟨x0,x1,x2,x3,x4,⟨v,y1,y2,y3,y4,y5,y6,y7⟩,x6,x7⟩) x5) e
def sl41 (v:V) (e:L8) (k:L8→Bool):Bool:=N8.rec (motive:=fun _=>Bool) (fun x0 x1 x2 x3 x4 x5 x6 x7=>N8.rec (motive:=fun _=>Bool) (fun y0 y1 y2 y3 y4 y5 y6 y7=>k ⟨x0,x1,x2,x3,x4,⟨y0,v,y2,y3,y4,y5,y6,y7⟩,x6,x7⟩) x5) e
def sl42 (v:V) (e:L8) (k:L8→Bool):Bool:=N8.rec (motive:=fun _=>Bool) (fun x0 x1 x2 x3 x4 x5 x6 x7=>N8.rec (motive:=fun _=>Bool) (fun y0 y1 y2 y3 y4 y5 y6 y7=>k ⟨x0,x1,x2,x3,x4,⟨y0,y1,v,y3,y4,y5,y6,y7⟩,x6,x7⟩) x5) e
def sl43 (v:V) (e:L8) (k:L8→Bool):Bool:=N8.rec (motive:=fun _=>Bool) (fun x0 x1 x2 x3 x4 x5 x6 x7=>N8.rec (motive:=fun _=>Bool) (fun y0 y1 y2 y3 y4 y5 y6 y7=>k ⟨x0,x1,x2,x3,x4,⟨y0,y1,y2,v,y4,y5,y6,y7⟩,x6,x7⟩) x5) e
def sl44 (v:V) (e:L8) (k:L8→Bool):Bool:=N8.rec (motive:=fun _=>Bool) (fun x0 x1 x2 x3 x4 x5 x6 x7=>N8.rec (motive:=fun _=>Bool) (fun y0 y1 y2 y3 y4 y5 y6 y7=>k ⟨x0,x1,x2,x3,x4,⟨y0,y1,y2,y3,v,y5,y6,y7⟩,x6,x7⟩) x5) e
def sl45 (v:V) (e:L8) (k:L8→Bool):Bool:=N8.rec (motive:=fun _=>Bool) (fun x0 x1 x2 x3 x4 x5 x6 x7=>N8.rec (motive:=fun _=>Bool) (fun y0 y1 y2 y3 y4 y5 y6 y7=>k ⟨x0,x1,x2,x3,x4,⟨y0,y1,y2,y3,y4,v,y6,y7⟩,x6,x7⟩) x5) e
def sl46 (v:V) (e:L8) (k:L8→Bool):Bool:=N8.rec (motive:=fun _=>Bool) (fun x0 x1 x2 x3 x4 x5 x6 x7=>N8.rec (motive:=fun _=>Bool) (fun y0 y1 y2 y3 y4 y5 y6 y7=>k ⟨x0,x1,x2,x3,x4,⟨y0,y1,y2,y3,y4,y5,v,y7⟩,x6,x7⟩) x5) e
def sl47 (v:V) (e:L8) (k:L8→Bool):Bool:=N8.rec (motive:=fun _=>Bool) (fun x0 x1 x2 x3 x4 x5 x6 x7=>N8.rec (motive:=fun _=>Bool) (fun y0 y1 y2 y3 y4 y5 y6 y7=>k ⟨x0,x1,x2,x3,x4,⟨y0,y1,y2,y3,y4,y5,y6,v⟩,x6,x7⟩) x5) e
def sl48 (v:V) (e:L8) (k:L8→Bool):Bool:=N8.rec (motive:=fun _=>Bool) (fun x0 x1 x2 x3 x4 x5 x6 x7=>N8.rec (motive:=fun _=>Bool) (fun y0 y1 y2 y3 y4 y5 y6 y7=>k ⟨x0,x1,x2,x3,x4,x5,⟨v,y1,y2,y3,y4,y5,y6,y7⟩,x7⟩) x6) e
def sl49 (v:V) (e:L8) (k:L8→Bool):Bool:=N8.rec (motive:=fun _=>Bool) (fun x0 x1 x2 x3 x4 x5 x6 x7=>N8.rec (motive:=fun _=>Bool) (fun y0 y1 y2 y3 y4 y5 y6 y7=>k ⟨x0,x1,x2,x3,x4,x5,⟨y0,v,y2,y3,y4,y5,y6,y7⟩,x7⟩) x6) e
def sl50 (v:V) (e:L8) (k:L8→Bool):Bool:=N8.rec (motive:=fun _=>Bool) (fun x0 x1 x2 x3 x4 x5 x6 x7=>N8.rec (motive:=fun _=>Bool) (fun y0 y1 y2 y3 y4 y5 y6 y7=>k ⟨x0,x1,x2,x3,x4,x5,⟨y0,y1,v,y3,y4,y5,y6,y7⟩,x7⟩) x6) e
def sl51 (v:V) (e:L8) (k:L8→Bool):Bool:=N8.rec (motive:=fun _=>Bool) (fun x0 x1 x2 x3 x4 x5 x6 x7=>N8.rec (motive:=fun _=>Bool) (fun y0 y1 y2 y3 y4 y5 y6 y7=>k ⟨x0,x1,x2,x3,x4,x5,⟨y0,y1,y2,v,y4,y5,y6,y7⟩,x7⟩) x6) e
def sl52 (v:V) (e:L8) (k:L8→Bool):Bool:=N8.rec (motive:=fun _=>Bool) (fun x0 x1 x2 x3 x4 x5 x6 x7=>N8.rec (motive:=fun _=>Bool) (fun y0 y1 y2 y3 y4 y5 y6 y7=>k ⟨x0,x1,x2,x3,x4,x5,⟨y0,y1,y2,y3,v,y5,y6,y7⟩,x7⟩) x6) e
def sl53 (v:V) (e:L8) (k:L8→Bool):Bool:=N8.rec (motive:=fun _=>Bool) (fun x0 x1 x2 x3 x4 x5 x6 x7=>N8.rec (motive:=fun _=>Bool) (fun y0 y1 y2 y3 y4 y5 y6 y7=>k ⟨x0,x1,x2,x3,x4,x5,⟨y0,y1,y2,y3,y4,v,y6,y7⟩,x7⟩) x6) e
def sl54 (v:V) (e:L8) (k:L8→Bool):Bool:=N8.rec (motive:=fun _=>Bool) (fun x0 x1 x2 x3 x4 x5 x6 x7=>N8.rec (motive:=fun _=>Bool) (fun y0 y1 y2 y3 y4 y5 y6 y7=>k ⟨x0,x1,x2,x3,x4,x5,⟨y0,y1,y2,y3,y4,y5,v,y7⟩,x7⟩) x6) e
def sl55 (v:V) (e:L8) (k:L8→Bool):Bool:=N8.rec (motive:=fun _=>Bool) (fun x0 x1 x2 x3 x4 x5 x6 x7=>N8.rec (motive:=fun _=>Bool) (fun y0 y1 y2 y3 y4 y5 y6 y7=>k ⟨x0,x1,x2,x3,x4,x5,⟨y0,y1,y2,y3,y4,y5,y6,v⟩,x7⟩) x6) e
def sl56 (v:V) (e:L8) (k:L8→Bool):Bool:=N8.rec (motive:=fun _=>Bool) (fun x0 x1 x2 x3 x4 x5 x6 x7=>N8.rec (motive:=fun _=>Bool) (fun y0 y1 y2 y3 y4 y5 y6 y7=>k ⟨x0,x1,x2,x3,x4,x5,x6,⟨v,y1,y2,y3,y4,y5,y6,y7⟩⟩) x7) e
def sl57 (v:V) (e:L8) (k:L8→Bool):Bool:=N8.rec (motive:=fun _=>Bool) (fun x0 x1 x2 x3 x4 x5 x6 x7=>N8.rec (motive:=fun _=>Bool) (fun y0 y1 y2 y3 y4 y5 y6 y7=>k ⟨x0,x1,x2,x3,x4,x5,x6,⟨y0,v,y2,y3,y4,y5,y6,y7⟩⟩) x7) e
def sl58 (v:V) (e:L8) (k:L8→Bool):Bool:=N8.rec (motive:=fun _=>Bool) (fun x0 x1 x2 x3 x4 x5 x6 x7=>N8.rec (motive:=fun _=>Bool) (fun y0 y1 y2 y3 y4 y5 y6 y7=>k ⟨x0,x1,x2,x3,x4,x5,x6,⟨y0,y1,v,y3,y4,y5,y6,y7⟩⟩) x7) e
def sl59 (v:V) (e:L8) (k:L8→Bool):Bool:=N8.rec (motive:=fun _=>Bool) (fun x0 x1 x2 x3 x4 x5 x6 x7=>N8.rec (motive:=fun _=>Bool) (fun y0 y1 y2 y3 y4 y5 y6 y7=>k ⟨x0,x1,x2,x3,x4,x5,x6,⟨y0,y1,y2,v,y4,y5,y6,y7⟩⟩) x7) e
def sl60 (v:V) (e:L8) (k:L8→Bool):Bool:=N8.rec (motive:=fun _=>Bool) (fun x0 x1 x2 x3 x4 x5 x6 x7=>N8.rec (motive:=fun _=>Bool) (fun y0 y1 y2 y3 y4 y5 y6 y7=>k ⟨x0,x1,x2,x3,x4,x5,x6,⟨y0,y1,y2,y3,v,y5,y6,y7⟩⟩) x7) e
def sl61 (v:V) (e:L8) (k:L8→Bool):Bool:=N8.rec (motive:=fun _=>Bool) (fun x0 x1 x2 x3 x4 x5 x6 x7=>N8.rec (motive:=fun _=>Bool) (fun y0 y1 y2 y3 y4 y5 y6 y7=>k ⟨x0,x1,x2,x3,x4,x5,x6,⟨y0,y1,y2,y3,y4,v,y6,y7⟩⟩) x7) e
def sl62 (v:V) (e:L8) (k:L8→Bool):Bool:=N8.rec (motive:=fun _=>Bool) (fun x0 x1 x2 x3 x4 x5 x6 x7=>N8.rec (motive:=fun _=>Bool) (fun y0 y1 y2 y3 y4 y5 y6 y7=>k ⟨x0,x1,x2,x3,x4,x5,x6,⟨y0,y1,y2,y3,y4,y5,v,y7⟩⟩) x7) e
def sl63 (v:V) (e:L8) (k:L8→Bool):Bool:=N8.rec (motive:=fun _=>Bool) (fun x0 x1 x2 x3 x4 x5 x6 x7=>N8.rec (motive:=fun _=>Bool) (fun y0 y1 y2 y3 y4 y5 y6 y7=>k ⟨x0,x1,x2,x3,x4,x5,x6,⟨y0,y1,y2,y3,y4,y5,y6,v⟩⟩) x7) e
abbrev slotL:List (V→L8→(L8→Bool)→Bool):=[sl0,sl1,sl2,sl3,sl4,sl5,sl6,sl7,sl8,sl9,sl10,sl11,sl12,sl13,sl14,sl15,sl16,sl17,sl18,sl19,sl20,sl21,sl22,sl23,sl24,sl25,sl26,sl27,sl28,sl29,sl30,sl31,sl32,sl33,sl34,sl35,sl36,sl37,sl38,sl39,sl40,sl41,sl42,sl43,sl44,sl45,sl46,sl47,sl48,sl49,sl50,sl51,sl52,sl53,sl54,sl55,sl56,sl57,sl58,sl59,sl60,sl61,sl62,sl63]
abbrev nthL {α:Type} (d:α) (l:List α):Nat→α:=List.rec (motive:=fun _=>Nat→α) (fun _=>d) (fun x _ ih i=>Nat.rec (motive:=fun _=>α) x (fun j _=>ih j) i) l
abbrev putL (i:Nat):V→L8→(L8→Bool)→Bool:=nthL sl0 slotL i
end
theorem sl0_eq (v:V) (e:L8) (k:L8→Bool):sl0 v e k=k (updL 0 v e):=rfl
theorem sl1_eq (v:V) (e:L8) (k:L8→Bool):sl1 v e k=k (updL 1 v e):=rfl
theorem sl2_eq (v:V) (e:L8) (k:L8→Bool):sl2 v e k=k (updL 2 v e):=rfl
theorem sl3_eq (v:V) (e:L8) (k:L8→Bool):sl3 v e k=k (updL 3 v e):=rfl
theorem sl4_eq (v:V) (e:L8) (k:L8→Bool):sl4 v e k=k (updL 4 v e):=rfl
theorem sl5_eq (v:V) (e:L8) (k:L8→Bool):sl5 v e k=k (updL 5 v e):=rfl
theorem sl6_eq (v:V) (e:L8) (k:L8→Bool):sl6 v e k=k (updL 6 v e):=rfl
theorem sl7_eq (v:V) (e:L8) (k:L8→Bool):sl7 v e k=k (updL 7 v e):=rfl
theorem sl8_eq (v:V) (e:L8) (k:L8→Bool):sl8 v e k=k (updL 8 v e):=rfl
theorem sl9_eq (v:V) (e:L8) (k:L8→Bool):sl9 v e k=k (updL 9 v e):=rfl
theorem sl10_eq (v:V) (e:L8) (k:L8→Bool):sl10 v e k=k (updL 10 v e):=rfl
theorem sl11_eq (v:V) (e:L8) (k:L8→Bool):sl11 v e k=k (updL 11 v e):=rfl
theorem sl12_eq (v:V) (e:L8) (k:L8→Bool):sl12 v e k=k (updL 12 v e):=rfl
theorem sl13_eq (v:V) (e:L8) (k:L8→Bool):sl13 v e k=k (updL 13 v e):=rfl
theorem sl14_eq (v:V) (e:L8) (k:L8→Bool):sl14 v e k=k (updL 14 v e):=rfl
theorem sl15_eq (v:V) (e:L8) (k:L8→Bool):sl15 v e k=k (updL 15 v e):=rfl
theorem sl16_eq (v:V) (e:L8) (k:L8→Bool):sl16 v e k=k (updL 16 v e):=rfl
theorem sl17_eq (v:V) (e:L8) (k:L8→Bool):sl17 v e k=k (updL 17 v e):=rfl
theorem sl18_eq (v:V) (e:L8) (k:L8→Bool):sl18 v e k=k (updL 18 v e):=rfl
theorem sl19_eq (v:V) (e:L8) (k:L8→Bool):sl19 v e k=k (updL 19 v e):=rfl
theorem sl20_eq (v:V) (e:L8) (k:L8→Bool):sl20 v e k=k (updL 20 v e):=rfl
theorem sl21_eq (v:V) (e:L8) (k:L8→Bool):sl21 v e k=k (updL 21 v e):=rfl
theorem sl22_eq (v:V) (e:L8) (k:L8→Bool):sl22 v e k=k (updL 22 v e):=rfl
theorem sl23_eq (v:V) (e:L8) (k:L8→Bool):sl23 v e k=k (updL 23 v e):=rfl
theorem sl24_eq (v:V) (e:L8) (k:L8→Bool):sl24 v e k=k (updL 24 v e):=rfl
theorem sl25_eq (v:V) (e:L8) (k:L8→Bool):sl25 v e k=k (updL 25 v e):=rfl
theorem sl26_eq (v:V) (e:L8) (k:L8→Bool):sl26 v e k=k (updL 26 v e):=rfl
theorem sl27_eq (v:V) (e:L8) (k:L8→Bool):sl27 v e k=k (updL 27 v e):=rfl
theorem sl28_eq (v:V) (e:L8) (k:L8→Bool):sl28 v e k=k (updL 28 v e):=rfl
theorem sl29_eq (v:V) (e:L8) (k:L8→Bool):sl29 v e k=k (updL 29 v e):=rfl
theorem sl30_eq (v:V) (e:L8) (k:L8→Bool):sl30 v e k=k (updL 30 v e):=rfl
theorem sl31_eq (v:V) (e:L8) (k:L8→Bool):sl31 v e k=k (updL 31 v e):=rfl
theorem sl32_eq (v:V) (e:L8) (k:L8→Bool):sl32 v e k=k (updL 32 v e):=rfl
theorem sl33_eq (v:V) (e:L8) (k:L8→Bool):sl33 v e k=k (updL 33 v e):=rfl
theorem sl34_eq (v:V) (e:L8) (k:L8→Bool):sl34 v e k=k (updL 34 v e):=rfl
theorem sl35_eq (v:V) (e:L8) (k:L8→Bool):sl35 v e k=k (updL 35 v e):=rfl
theorem sl36_eq (v:V) (e:L8) (k:L8→Bool):sl36 v e k=k (updL 36 v e):=rfl
theorem sl37_eq (v:V) (e:L8) (k:L8→Bool):sl37 v e k=k (updL 37 v e):=rfl
theorem sl38_eq (v:V) (e:L8) (k:L8→Bool):sl38 v e k=k (updL 38 v e):=rfl
theorem sl39_eq (v:V) (e:L8) (k:L8→Bool):sl39 v e k=k (updL 39 v e):=rfl
theorem sl40_eq (v:V) (e:L8) (k:L8→Bool):sl40 v e k=k (updL 40 v e):=rfl
theorem sl41_eq (v:V) (e:L8) (k:L8→Bool):sl41 v e k=k (updL 41 v e):=rfl
theorem sl42_eq (v:V) (e:L8) (k:L8→Bool):sl42 v e k=k (updL 42 v e):=rfl
theorem sl43_eq (v:V) (e:L8) (k:L8→Bool):sl43 v e k=k (updL 43 v e):=rfl
theorem sl44_eq (v:V) (e:L8) (k:L8→Bool):sl44 v e k=k (updL 44 v e):=rfl
theorem sl45_eq (v:V) (e:L8) (k:L8→Bool):sl45 v e k=k (updL 45 v e):=rfl
theorem sl46_eq (v:V) (e:L8) (k:L8→Bool):sl46 v e k=k (updL 46 v e):=rfl
theorem sl47_eq (v:V) (e:L8) (k:L8→Bool):sl47 v e k=k (updL 47 v e):=rfl
theorem sl48_eq (v:V) (e:L8) (k:L8→Bool):sl48 v e k=k (updL 48 v e):=rfl
theorem sl49_eq (v:V) (e:L8) (k:L8→Bool):sl49 v e k=k (updL 49 v e):=rfl
theorem sl50_eq (v:V) (e:L8) (k:L8→Bool):sl50 v e k=k (updL 50 v e):=rfl
theorem sl51_eq (v:V) (e:L8) (k:L8→Bool):sl51 v e k=k (updL 51 v e):=rfl
theorem sl52_eq (v:V) (e:L8) (k:L8→Bool):sl52 v e k=k (updL 52 v e):=rfl
theorem sl53_eq (v:V) (e:L8) (k:L8→Bool):sl53 v e k=k (updL 53 v e):=rfl
theorem sl54_eq (v:V) (e:L8) (k:L8→Bool):sl54 v e k=k (updL 54 v e):=rfl
theorem sl55_eq (v:V) (e:L8) (k:L8→Bool):sl55 v e k=k (updL 55 v e):=rfl
theorem sl56_eq (v:V) (e:L8) (k:L8→Bool):sl56 v e k=k (updL 56 v e):=rfl
theorem sl57_eq (v:V) (e:L8) (k:L8→Bool):sl57 v e k=k (updL 57 v e):=rfl
theorem sl58_eq (v:V) (e:L8) (k:L8→Bool):sl58 v e k=k (updL 58 v e):=rfl
theorem sl59_eq (v:V) (e:L8) (k:L8→Bool):sl59 v e k=k (updL 59 v e):=rfl
theorem sl60_eq (v:V) (e:L8) (k:L8→Bool):sl60 v e k=k (updL 60 v e):=rfl
theorem sl61_eq (v:V) (e:L8) (k:L8→Bool):sl61 v e k=k (updL 61 v e):=rfl
theorem sl62_eq (v:V) (e:L8) (k:L8→Bool):sl62 v e k=k (updL 62 v e):=rfl
theorem sl63_eq (v:V) (e:L8) (k:L8→Bool):sl63 v e k=k (updL 63 v e):=rfl
theorem putL_eq:∀ (i:Nat),i<64→∀ (v:V) (e:L8) (k:L8→Bool),putL i v e k=k (updL i v e)
 | 0,_,v,e,k=>sl0_eq v e k
 | 1,_,v,e,k=>sl1_eq v e k
 | 2,_,v,e,k=>sl2_eq v e k
 | 3,_,v,e,k=>sl3_eq v e k
 | 4,_,v,e,k=>sl4_eq v e k
 | 5,_,v,e,k=>sl5_eq v e k
 | 6,_,v,e,k=>sl6_eq v e k
 | 7,_,v,e,k=>sl7_eq v e k
 | 8,_,v,e,k=>sl8_eq v e k
 | 9,_,v,e,k=>sl9_eq v e k
 | 10,_,v,e,k=>sl10_eq v e k
 | 11,_,v,e,k=>sl11_eq v e k
 | 12,_,v,e,k=>sl12_eq v e k
 | 13,_,v,e,k=>sl13_eq v e k
 | 14,_,v,e,k=>sl14_eq v e k
 | 15,_,v,e,k=>sl15_eq v e k
 | 16,_,v,e,k=>sl16_eq v e k
 | 17,_,v,e,k=>sl17_eq v e k
 | 18,_,v,e,k=>sl18_eq v e k
 | 19,_,v,e,k=>sl19_eq v e k
 | 20,_,v,e,k=>sl20_eq v e k
 | 21,_,v,e,k=>sl21_eq v e k
 | 22,_,v,e,k=>sl22_eq v e k
 | 23,_,v,e,k=>sl23_eq v e k
 | 24,_,v,e,k=>sl24_eq v e k
 | 25,_,v,e,k=>sl25_eq v e k
 | 26,_,v,e,k=>sl26_eq v e k
 | 27,_,v,e,k=>sl27_eq v e k
 | 28,_,v,e,k=>sl28_eq v e k
 | 29,_,v,e,k=>sl29_eq v e k
 | 30,_,v,e,k=>sl30_eq v e k
 | 31,_,v,e,k=>sl31_eq v e k
 | 32,_,v,e,k=>sl32_eq v e k
 | 33,_,v,e,k=>sl33_eq v e k
 | 34,_,v,e,k=>sl34_eq v e k
 | 35,_,v,e,k=>sl35_eq v e k
 | 36,_,v,e,k=>sl36_eq v e k
 | 37,_,v,e,k=>sl37_eq v e k
 | 38,_,v,e,k=>sl38_eq v e k
 | 39,_,v,e,k=>sl39_eq v e k
 | 40,_,v,e,k=>sl40_eq v e k
 | 41,_,v,e,k=>sl41_eq v e k
 | 42,_,v,e,k=>sl42_eq v e k
 | 43,_,v,e,k=>sl43_eq v e k
 | 44,_,v,e,k=>sl44_eq v e k
 | 45,_,v,e,k=>sl45_eq v e k
 | 46,_,v,e,k=>sl46_eq v e k
 | 47,_,v,e,k=>sl47_eq v e k
 | 48,_,v,e,k=>sl48_eq v e k
 | 49,_,v,e,k=>sl49_eq v e k
 | 50,_,v,e,k=>sl50_eq v e k
 | 51,_,v,e,k=>sl51_eq v e k
 | 52,_,v,e,k=>sl52_eq v e k
 | 53,_,v,e,k=>sl53_eq v e k
 | 54,_,v,e,k=>sl54_eq v e k
 | 55,_,v,e,k=>sl55_eq v e k
 | 56,_,v,e,k=>sl56_eq v e k
 | 57,_,v,e,k=>sl57_eq v e k
 | 58,_,v,e,k=>sl58_eq v e k
 | 59,_,v,e,k=>sl59_eq v e k
 | 60,_,v,e,k=>sl60_eq v e k
 | 61,_,v,e,k=>sl61_eq v e k
 | 62,_,v,e,k=>sl62_eq v e k
 | 63,_,v,e,k=>sl63_eq v e k
 | n+64,h,_,_,_=>by omega
end Go.Bvm
set_option linter.unusedVariables false
namespace Go.Bvm
noncomputable section
def isW (v:V):Bool:=V.rec (motive:=fun _=>Bool) (fun _=>true) (fun _=>false) (fun _=>false) (fun _ _=>false) (fun _ _ _ _=>false) (fun _ _ _ _ _=>false) (fun _ _ _ _ _=>false) v
def wOf (v:V):Nat:=V.rec (motive:=fun _=>Nat) (fun n=>n) (fun _=>0) (fun _=>0) (fun _ _=>0) (fun _ _ _ _=>0) (fun _ _ _ _ _=>0) (fun _ _ _ _ _=>0) v
def isY (v:V):Bool:=V.rec (motive:=fun _=>Bool) (fun _=>false) (fun _=>true) (fun _=>false) (fun _ _=>false) (fun _ _ _ _=>false) (fun _ _ _ _ _=>false) (fun _ _ _ _ _=>false) v
def yOf (v:V):Nat:=V.rec (motive:=fun _=>Nat) (fun _=>0) (fun n=>n) (fun _=>0) (fun _ _=>0) (fun _ _ _ _=>0) (fun _ _ _ _ _=>0) (fun _ _ _ _ _=>0) v
def isS (v:V):Bool:=V.rec (motive:=fun _=>Bool) (fun _=>false) (fun _=>false) (fun _=>false) (fun _ _=>true) (fun _ _ _ _=>false) (fun _ _ _ _ _=>false) (fun _ _ _ _ _=>false) v
def sL (v:V):Nat:=V.rec (motive:=fun _=>Nat) (fun _=>0) (fun _=>0) (fun _=>0) (fun l _=>l) (fun _ _ _ _=>0) (fun _ _ _ _ _=>0) (fun _ _ _ _ _=>0) v
def sN (v:V):Nat:=V.rec (motive:=fun _=>Nat) (fun _=>0) (fun _=>0) (fun _=>0) (fun _ n=>n) (fun _ _ _ _=>0) (fun _ _ _ _ _=>0) (fun _ _ _ _ _=>0) v
def isP (v:V):Bool:=V.rec (motive:=fun _=>Bool) (fun _=>false) (fun _=>false) (fun _=>false) (fun _ _=>false) (fun _ _ _ _=>true) (fun _ _ _ _ _=>false) (fun _ _ _ _ _=>false) v
def pO (v:V):Nat:=V.rec (motive:=fun _=>Nat) (fun _=>0) (fun _=>0) (fun _=>0) (fun _ _=>0) (fun _ a _ _=>a) (fun _ _ _ _ _=>0) (fun _ _ _ _ _=>0) v
def slI (v:V):Nat:=V.rec (motive:=fun _=>Nat) (fun _=>0) (fun _=>0) (fun _=>0) (fun _ _=>0) (fun _ _ _ _=>0) (fun a _ _ _ _=>a) (fun _ _ _ _ _=>0) v
def slO (v:V):Nat:=V.rec (motive:=fun _=>Nat) (fun _=>0) (fun _=>0) (fun _=>0) (fun _ _=>0) (fun _ _ _ _=>0) (fun _ a _ _ _=>a) (fun _ _ _ _ _=>0) v
def slL (v:V):Nat:=V.rec (motive:=fun _=>Nat) (fun _=>0) (fun _=>0) (fun _=>0) (fun _ _=>0) (fun _ _ _ _=>0) (fun _ _ a _ _=>a) (fun _ _ _ _ _=>0) v
def slV (v:V):Nat:=V.rec (motive:=fun _=>Nat) (fun _=>0) (fun _=>0) (fun _=>0) (fun _ _=>0) (fun _ _ _ _=>0) (fun _ _ _ a _=>a) (fun _ _ _ _ _=>0) v
def slE (v:V):Nat:=V.rec (motive:=fun _=>Nat) (fun _=>0) (fun _=>0) (fun _=>0) (fun _ _=>0) (fun _ _ _ _=>0) (fun _ _ _ _ a=>a) (fun _ _ _ _ _=>0) v
def tagOS (g:Tag):Bool:=Tag.rec (motive:=fun _=>Bool) (fun _ _=>false) false false false false false false false false false false (fun _=>false) (fun _=>false) (fun _=>false) true false false g
def tagNN (g:Tag):Bool:=Tag.rec (motive:=fun _=>Bool) (fun _ _=>false) false false false false false false false false false false (fun _=>false) (fun _=>false) (fun _=>false) false true false g
def tgInt (g:Tag):Bool:=Tag.rec (motive:=fun _=>Bool) (fun _ _=>true) false false false false false false false false false false (fun _=>false) (fun _=>false) (fun _=>false) false false false g
def tgK (g:Tag):IntKind:=Tag.rec (motive:=fun _=>IntKind) (fun k _=>k) .i64 .i64 .i64 .i64 .i64 .i64 .i64 .i64 .i64 .i64 (fun _=>.i64) (fun _=>.i64) (fun _=>.i64) .i64 .i64 .i64 g
def tgN (g:Tag):Int:=Tag.rec (motive:=fun _=>Int) (fun _ n=>n) 0 0 0 0 0 0 0 0 0 0 (fun _=>0) (fun _=>0) (fun _=>0) 0 0 0 g
def vtagOS (v:V):Bool:=V.rec (motive:=fun _=>Bool) (fun _=>false) (fun _=>false) (fun _=>false) (fun _ _=>false) (fun _ _ _ _=>false) (fun _ _ _ _ _=>false) (fun g _ _ _ _=>tagOS g) v
def vtagNN (v:V):Bool:=V.rec (motive:=fun _=>Bool) (fun _=>false) (fun _=>false) (fun _=>false) (fun _ _=>false) (fun _ _ _ _=>false) (fun _ _ _ _ _=>false) (fun g _ _ _ _=>tagNN g) v
def vtgInt (v:V):Bool:=V.rec (motive:=fun _=>Bool) (fun _=>false) (fun _=>false) (fun _=>false) (fun _ _=>false) (fun _ _ _ _=>false) (fun _ _ _ _ _=>false) (fun g _ _ _ _=>tgInt g) v
def xK (v:V):IntKind:=V.rec (motive:=fun _=>IntKind) (fun _=>.i64) (fun _=>.i64) (fun _=>.i64) (fun _ _=>.i64) (fun _ _ _ _=>.i64) (fun _ _ _ _ _=>.i64) (fun g _ _ _ _=>tgK g) v
def xN (v:V):Int:=V.rec (motive:=fun _=>Int) (fun _=>0) (fun _=>0) (fun _=>0) (fun _ _=>0) (fun _ _ _ _=>0) (fun _ _ _ _ _=>0) (fun g _ _ _ _=>tgN g) v
def xA (v:V):V:=V.rec (motive:=fun _=>V) (fun _=>V.nil) (fun _=>V.nil) (fun _=>V.nil) (fun _ _=>V.nil) (fun _ _ _ _=>V.nil) (fun _ _ _ _ _=>V.nil) (fun _ a _ _ _=>a) v
def xB (v:V):V:=V.rec (motive:=fun _=>V) (fun _=>V.nil) (fun _=>V.nil) (fun _=>V.nil) (fun _ _=>V.nil) (fun _ _ _ _=>V.nil) (fun _ _ _ _ _=>V.nil) (fun _ _ b _ _=>b) v
def onW (v:V) (k:Nat→Bool):Bool:=V.rec (motive:=fun _=>Bool) k (fun _=>false) (fun _=>false) (fun _ _=>false) (fun _ _ _ _=>false) (fun _ _ _ _ _=>false) (fun _ _ _ _ _=>false) v
def onT (v:V) (k:Bool→Bool):Bool:=V.rec (motive:=fun _=>Bool) (fun _=>false) (fun _=>false) k (fun _ _=>false) (fun _ _ _ _=>false) (fun _ _ _ _ _=>false) (fun _ _ _ _ _=>false) v
def onY (v:V) (k:Nat→Bool):Bool:=V.rec (motive:=fun _=>Bool) (fun _=>false) k (fun _=>false) (fun _ _=>false) (fun _ _ _ _=>false) (fun _ _ _ _ _=>false) (fun _ _ _ _ _=>false) v
def onS (v:V) (k:Nat→Nat→Bool):Bool:=V.rec (motive:=fun _=>Bool) (fun _=>false) (fun _=>false) (fun _=>false) k (fun _ _ _ _=>false) (fun _ _ _ _ _=>false) (fun _ _ _ _ _=>false) v
def onP (v:V) (k:Nat→Nat→Nat→Nat→Bool):Bool:=V.rec (motive:=fun _=>Bool) (fun _=>false) (fun _=>false) (fun _=>false) (fun _ _=>false) k (fun _ _ _ _ _=>false) (fun _ _ _ _ _=>false) v
def onSl (v:V) (kn:Bool) (k:Nat→Nat→Nat→Nat→Nat→Bool):Bool:=V.rec (motive:=fun _=>Bool) (fun _=>false) (fun _=>false) (fun _=>false) (fun _ _=>false) (fun _ _ _ _=>false) k (fun g _ _ _ _=>Tag.rec (motive:=fun _=>Bool) (fun _ _=>false) false kn false false false false false false false false (fun _=>false) (fun _=>false) (fun _=>false) false false false g) v
def onAgg (v:V) (k:V→Bool):Bool:=V.rec (motive:=fun _=>Bool) (fun _=>false) (fun _=>false) (fun _=>false) (fun _ _=>false) (fun _ _ _ _=>false) (fun _ _ _ _ _=>false) (fun g a b _ _=>Tag.rec (motive:=fun _=>Bool) (fun _ _=>false) false false false false false false (k a) false false false (fun _=>false) (fun _=>false) (fun _=>false) false false false g) v
def onTup (v:V) (k:V→Bool):Bool:=V.rec (motive:=fun _=>Bool) (fun _=>false) (fun _=>false) (fun _=>false) (fun _ _=>false) (fun _ _ _ _=>false) (fun _ _ _ _ _=>false) (fun g a b _ _=>Tag.rec (motive:=fun _=>Bool) (fun _ _=>false) false false false false false false false (k a) false false (fun _=>false) (fun _=>false) (fun _=>false) false false false g) v
def onFn (v:V) (k:Nat→V→V→Bool):Bool:=V.rec (motive:=fun _=>Bool) (fun _=>false) (fun _=>false) (fun _=>false) (fun _ _=>false) (fun _ _ _ _=>false) (fun _ _ _ _ _=>false) (fun g a b _ _=>Tag.rec (motive:=fun _=>Bool) (fun _ _=>false) false false false false false false false false false false (fun _=>false) (fun f=>k f a b) (fun _=>false) false false false g) v
def onI (v:V) (k:IntKind→Int→Bool):Bool:=V.rec (motive:=fun _=>Bool) (fun _=>false) (fun _=>false) (fun _=>false) (fun _ _=>false) (fun _ _ _ _=>false) (fun _ _ _ _ _=>false) (fun g a b _ _=>Tag.rec (motive:=fun _=>Bool) (fun q n=>k q n) false false false false false false false false false false (fun _=>false) (fun _=>false) (fun _=>false) false false false g) v
def onBk (b:Blk) (k:Arr→Nat→Nat→Nat→Nat→Bool→Bool→Bool):Bool:=
 Blk.rec (motive:=fun _=>Bool) false (fun c s v f e x o=>k c s v f e x o) (fun _=>false) (fun _ _ _=>false) (fun _ _ _=>false) b
def cells (c:Arr):(n i:Nat)→V:=Nat.rec (fun _=>V.nil) (fun _ ih i=>.x .cons (aget i c) (ih (i+1)))
def ld1 (x:V) (h:H) (k:V→Bool):Bool:=onP x fun id off lim ver=>onBk (hget id h.tr) fun c _ bver _ _ _ _=>
  both (Nat.beq ver bver) (both (Nat.ble (Nat.succ off) lim) (k (aget off c)))
def lda (n:Nat) (x:V) (h:H) (k:V→Bool):Bool:=onP x fun id off lim ver=>onBk (hget id h.tr) fun c _ bver _ _ _ _=>
  both (Nat.beq ver bver) (both (Nat.ble (Nat.add off n) lim) (k (.x .agg (cells c n off) V.nil)))
def lay (l:V):(n i:Nat)→Arr→(Arr→Bool)→Bool:=
 V.rec (motive:=fun _=>Nat→Nat→Arr→(Arr→Bool)→Bool) (fun _ _ _ _ _=>false) (fun _ _ _ _ _=>false) (fun _ _ _ _ _=>false) (fun _ _ _ _ _ _=>false) (fun _ _ _ _ _ _ _ _=>false) (fun _ _ _ _ _ _ _ _ _=>false)
  (fun g a b _ ihb n i c k=>Tag.rec (motive:=fun _=>Bool) (fun _ _=>false) false false false false false false false false
   (Nat.rec (motive:=fun _=>Bool) false (fun m _=>ihb m (i+1) (aset i a c) k) n)
   (Nat.rec (motive:=fun _=>Bool) (k c) (fun _ _=>false) n)
   (fun _=>false) (fun _=>false) (fun _=>false) false false false g) l
def oneV (v:V):Bool:=V.rec (motive:=fun _=>Bool) (fun _=>true) (fun _=>true) (fun _=>true) (fun _ _=>true) (fun _ _ _ _=>true) (fun _ _ _ _ _=>true)
 (fun g _ _ _ _=>Tag.rec (motive:=fun _=>Bool) (fun _ _=>true) true true true true true false false false false false (fun _=>true) (fun _=>true) (fun _=>true) true true false g) v
def layV (one:Bool) (v:V) (n i:Nat) (c:Arr) (k:Arr→Bool):Bool:=
 bs one (both (Nat.beq n 1) (both (oneV v) (k (aset i v c)))) (onAgg v fun l=>lay l n i c k)
def st (one:Bool) (n:Nat) (x y:V) (h:H) (k:KV):Bool:=
 onP x fun id off lim ver=>onBk (hget id h.tr) fun c size bver frz elem ex own=>
  both own (both (Nat.beq ver bver) (both (Nat.ble (Nat.add off n) lim) (both (Nat.ble frz off)
   (layV one y n off c fun c'=>k V.u ⟨h.next,hset id (.bk c' size bver frz elem ex own) h.tr⟩))))
def fresh (n:Nat):Arr:=bs (Nat.ble n 8) (.a1 z1) (bs (Nat.ble n 4096) (.a4 z4) (.al n fun _=>V.u))
def resv (n:Nat) (h:H) (k:Nat→H→Bool):Bool:=both (Nat.ble 0 (Nat.add h.next n)) (k h.next ⟨Nat.add h.next n,h.tr⟩)
def newA (id:Nat) (one:Bool) (n elem:Nat) (y:V) (h:H) (k:KV):Bool:=
 both (Nat.ble 1 n) (both (Nat.ble n 17179869184)
  (layV one y n 0 (fresh n) fun c=>k (.p id 0 n 0) ⟨h.next,hset id (.bk c n 0 0 elem true true) h.tr⟩))
def pickV (c a b:V) (k:V→Bool):Bool:=onT c fun t=>k (bs t a b)
def fadV (o:Nat) (x:V) (k:V→Bool):Bool:=onP x fun id off lim ver=>k (.p id (Nat.add off o) lim ver)
def nilckV (v:V) (k:V→Bool):Bool:=V.rec (motive:=fun _=>Bool) (fun n=>k (.w n)) (fun n=>k (.y n)) (fun b=>k (.t b)) (fun l n=>k (.s l n)) (fun a b c d=>k (.p a b c d)) (fun a b c d f=>k (.sl a b c d f))
 (fun g a b _ _=>Tag.rec (motive:=fun _=>Bool) (fun _ _=>k v) false (k v) false false (k v) (k v) (k v) (k v) (k v) (k v) (fun _=>k v) (fun _=>k v) (fun _=>k v) (k v) (k v) false g) v
def bias:Nat:=9223372036854775808
def two64:Nat:=18446744073709551616
def arithZ (fz:IntKind→Int→Int→(V→Bool)→Bool) (x y:V) (k:V→Bool):Bool:=both (vtgInt x) (both (vtgInt y) (both (decide (xK x=xK y)) (fz (xK x) (xN x) (xN y) k)))
def arithY (fy:Nat→Nat→(V→Bool)→Bool) (fz:IntKind→Int→Int→(V→Bool)→Bool) (x y:V) (k:V→Bool):Bool:=bs (isY x) (both (isY y) (fy (yOf x) (yOf y) k)) (arithZ fz x y k)
def arith (fw fy:Nat→Nat→(V→Bool)→Bool) (fz:IntKind→Int→Int→(V→Bool)→Bool) (x y:V) (k:V→Bool):Bool:=bs (isW x) (both (isW y) (fw (wOf x) (wOf y) k)) (arithY fy fz x y k)
def mkI (k:IntKind) (n:Int):V:=.x (.int k n) V.nil V.nil
def addV:=arith (fun a b k=>k (.w ((a+b+bias) % two64))) (fun a b k=>k (.y ((a+b) % 256))) (fun q a b k=>k (mkI q (q.wrap (a+b))))
def subV:=arith (fun a b k=>k (.w ((a+(two64+bias)-b) % two64))) (fun a b k=>k (.y ((a+256-b) % 256))) (fun q a b k=>k (mkI q (q.wrap (a-b))))
def mulV:=arith (fun a b k=>k (.w (((a+bias)*(b+bias)+bias) % two64))) (fun a b k=>k (.y (a*b % 256))) (fun q a b k=>k (mkI q (q.wrap (a*b))))
def quoV:=arith (fun a b k=>both (Nat.ble bias a) (both (Nat.ble (bias+1) b) (k (.w ((a-bias) / (b-bias)+bias))))) (fun a b k=>both (Nat.ble 1 b) (k (.y (a / b))))
 (fun q a b k=>bs (decide (b=0)) false (k (mkI q (q.wrap (a.tdiv b)))))
def remV:=arith (fun a b k=>both (Nat.ble bias a) (both (Nat.ble (bias+1) b) (k (.w ((a-bias) % (b-bias)+bias))))) (fun a b k=>both (Nat.ble 1 b) (k (.y (a % b))))
 (fun q a b k=>bs (decide (b=0)) false (k (mkI q (a.tmod b))))
def cmpZ (g:Int→Int→Bool) (x y:V) (k:V→Bool):Bool:=both (vtgInt x) (both (vtgInt y) (both (decide (xK x=xK y)) (k (.t (g (xN x) (xN y))))))
def cmpS (g:Int→Int→Bool) (hs:Nat→Nat→Nat→Nat→(V→Bool)→Bool) (x y:V) (k:V→Bool):Bool:=bs (isS x) (both (isS y) (hs (sL x) (sN x) (sL y) (sN y) k)) (cmpZ g x y k)
def cmpY (f:Nat→Nat→Bool) (g:Int→Int→Bool) (hs:Nat→Nat→Nat→Nat→(V→Bool)→Bool) (x y:V) (k:V→Bool):Bool:=bs (isY x) (both (isY y) (k (.t (f (yOf x) (yOf y))))) (cmpS g hs x y k)
def cmpV (f:Nat→Nat→Bool) (g:Int→Int→Bool) (hs:Nat→Nat→Nat→Nat→(V→Bool)→Bool) (x y:V) (k:V→Bool):Bool:=bs (isW x) (both (isW y) (k (.t (f (wOf x) (wOf y))))) (cmpY f g hs x y k)
def sbyte (n i:Nat):Nat:=Nat.mod (Nat.shiftRight n (Nat.mul 8 i)) 256
def sless:(l n l' n':Nat)→Bool:=
 Nat.rec (fun _ l' _=>Nat.ble 1 l') (fun l ih n l' n'=>Nat.rec (motive:=fun _=>Bool) false
  (fun m _=>bs (Nat.beq (n % 256) (n' % 256)) (ih (n / 256) m (n' / 256)) (Nat.ble (n % 256+1) (n' % 256))) l')
def seqB (l n l' n':Nat):Bool:=both (Nat.beq l l') (Nat.beq n n')
def nots (b:Bool):Bool:=bs b false true
def lssV:=cmpV (fun a b=>Nat.ble (a+1) b) (fun a b=>decide (a<b)) (fun l n l' n' k=>k (.t (sless l n l' n')))
def leqV:=cmpV (fun a b=>Nat.ble a b) (fun a b=>decide (a≤b)) (fun l n l' n' k=>k (.t (nots (sless l' n' l n))))
def gtrV:=cmpV (fun a b=>Nat.ble (b+1) a) (fun a b=>decide (a>b)) (fun l n l' n' k=>k (.t (sless l' n' l n)))
def geqV (x y:V) (k:V→Bool):Bool:=bs (vtagNN x) (onW y fun m=>both (Nat.ble m bias) (k (.t true))) (cmpV (fun a b=>Nat.ble b a) (fun a b=>decide (a≥b)) (fun l n l' n' k=>k (.t (nots (sless l n l' n')))) x y k)
def catV (x y:V) (k:V→Bool):Bool:=onS x fun l n=>onS y fun l' n'=>both (Nat.ble (l+l') 1099511627776) (k (.s (l+l') (n+Nat.shiftLeft n' (8*l))))
def onIx (v:V) (k:Nat→Bool):Bool:=bs (isW v) (onW v fun i=>both (Nat.ble bias i) (k (Nat.sub i bias))) (bs (isY v) (onY v k) (onI v fun _ n=>both (decide (0≤n)) (k n.toNat)))
def sidxV (x y:V) (k:V→Bool):Bool:=onS x fun l n=>onIx y fun i=>both (Nat.ble (Nat.succ i) l) (k (.y (sbyte n i)))
def shrV (x y:V) (k:V→Bool):Bool:=onIx y fun b=>bs (isW x) (both (Nat.ble b 64) (onW x fun n=>both (Nat.ble bias n) (k (.w (Nat.add (Nat.div (Nat.sub n bias) (Nat.pow 2 b)) bias)))))
 (bs (isY x) (both (Nat.ble b 8) (onY x fun n=>k (.y (Nat.div n (Nat.pow 2 b))))) (onI x fun q a=>both (Nat.ble b q.bits) (k (mkI q (a / 2 ^ b)))))
def capL (v:V) (k:V→Bool):Bool:=onSl v (k (.w bias)) fun _ _ _ _ _=>false
def copD (x:V) (k:V→Bool):Bool:=onSl x (k (.w bias)) fun _ _ _ _ _=>k (.w bias)
def copL (x y:V) (k:V→Bool):Bool:=onSl y (copD x k) fun _ _ len _ _=>both (Nat.beq len 0) (copD x k)
def afill (n:Nat) (v:V):Arr:=bs (Nat.ble n 8) (.a1 (n8 v)) (bs (Nat.ble n 4096) (.a4 (n8 (n8 (n8 (n8 v))))) (.al n fun _=>v))
def mkslA (id elem:Nat) (z x y:V) (h:H) (k:KV):Bool:=onIx x fun n=>onIx y fun m=>both (Nat.beq n m) (both (Nat.ble n 16777216) (k (.sl id 0 n 0 1) ⟨h.next,hset id (.bk (afill n z) n 0 0 elem true true) h.tr⟩))
def ssub (l n lo hi:Nat):V:=.s (hi-lo) (Nat.mod (Nat.shiftRight n (8*lo)) (Nat.pow 256 (hi-lo)))
def maxV:=arith (fun a b k=>k (.w (bs (Nat.ble (a+1) b) b a))) (fun a b k=>k (.y (bs (Nat.ble (a+1) b) b a))) (fun q a b k=>k (mkI q (if b>a then b else a)))
def minV:=arith (fun a b k=>k (.w (bs (Nat.ble (b+1) a) b a))) (fun a b k=>k (.y (bs (Nat.ble (b+1) a) b a))) (fun q a b k=>k (mkI q (if b<a then b else a)))
def notV (x:V) (k:V→Bool):Bool:=onT x fun b=>k (.t (nots b))
def addW (x y:V) (k:V→Bool):Bool:=onW x fun a=>onW y fun b=>k (.w (Nat.mod (Nat.add (Nat.add a b) bias) two64))
def addY (x y:V) (k:V→Bool):Bool:=onY x fun a=>onY y fun b=>k (.y (Nat.mod (Nat.add a b) 256))
def subW (x y:V) (k:V→Bool):Bool:=onW x fun a=>onW y fun b=>k (.w (Nat.mod (Nat.sub (Nat.add a (two64+bias)) b) two64))
def subY (x y:V) (k:V→Bool):Bool:=onY x fun a=>onY y fun b=>k (.y (Nat.mod (Nat.sub (Nat.add a 256) b) 256))
def lssW (x y:V) (k:V→Bool):Bool:=onW x fun a=>onW y fun b=>k (.t (Nat.ble (Nat.succ a) b))
def leqW (x y:V) (k:V→Bool):Bool:=onW x fun a=>onW y fun b=>k (.t (Nat.ble a b))
def gtrW (x y:V) (k:V→Bool):Bool:=onW x fun a=>onW y fun b=>k (.t (Nat.ble (Nat.succ b) a))
def eqlW (x y:V) (k:V→Bool):Bool:=onW x fun a=>onW y fun b=>k (.t (Nat.beq a b))
def neqW (x y:V) (k:V→Bool):Bool:=onW x fun a=>onW y fun b=>k (.t (nots (Nat.beq a b)))
def lssY (x y:V) (k:V→Bool):Bool:=onY x fun a=>onY y fun b=>k (.t (Nat.ble (Nat.succ a) b))
def leqY (x y:V) (k:V→Bool):Bool:=onY x fun a=>onY y fun b=>k (.t (Nat.ble a b))
def gtrY (x y:V) (k:V→Bool):Bool:=onY x fun a=>onY y fun b=>k (.t (Nat.ble (Nat.succ b) a))
def geqY (x y:V) (k:V→Bool):Bool:=onY x fun a=>onY y fun b=>k (.t (Nat.ble b a))
def eqlY (x y:V) (k:V→Bool):Bool:=onY x fun a=>onY y fun b=>k (.t (Nat.beq a b))
def neqY (x y:V) (k:V→Bool):Bool:=onY x fun a=>onY y fun b=>k (.t (nots (Nat.beq a b)))
def eqlS (x y:V) (k:V→Bool):Bool:=onS x fun l n=>onS y fun l' n'=>k (.t (seqB l n l' n'))
def neqS (x y:V) (k:V→Bool):Bool:=onS x fun l n=>onS y fun l' n'=>k (.t (nots (seqB l n l' n')))
def nilP (v:V) (k:Bool→Bool):Bool:=V.rec (motive:=fun _=>Bool) (fun _=>false) (fun _=>false) (fun _=>false) (fun _ _=>false) (fun _ _ _ _=>k false) (fun _ _ _ _ _=>false) (fun g _ _ _ _=>Tag.rec (motive:=fun _=>Bool) (fun _ _=>false) (k true) false false false false false false false false false (fun _=>false) (fun _=>false) (fun _=>false) false false false g) v
def nilS (v:V) (k:Bool→Bool):Bool:=V.rec (motive:=fun _=>Bool) (fun _=>false) (fun _=>false) (fun _=>false) (fun _ _=>false) (fun _ _ _ _=>false) (fun _ _ _ _ _=>k false) (fun g _ _ _ _=>Tag.rec (motive:=fun _=>Bool) (fun _ _=>false) false (k true) false false false false false false false false (fun _=>false) (fun _=>false) (fun _=>false) false false false g) v
def nilF (v:V) (k:Bool→Bool):Bool:=V.rec (motive:=fun _=>Bool) (fun _=>false) (fun _=>false) (fun _=>false) (fun _ _=>false) (fun _ _ _ _=>false) (fun _ _ _ _ _=>false) (fun g _ _ _ _=>Tag.rec (motive:=fun _=>Bool) (fun _ _=>false) false false (k true) false false false false false false false (fun _=>false) (fun _=>k false) (fun _=>false) false false false g) v
def nilI (v:V) (k:Bool→Bool):Bool:=V.rec (motive:=fun _=>Bool) (fun _=>false) (fun _=>false) (fun _=>false) (fun _ _=>false) (fun _ _ _ _=>false) (fun _ _ _ _ _=>false) (fun g _ _ _ _=>Tag.rec (motive:=fun _=>Bool) (fun _ _=>false) false false false (k true) false false false false false false (fun _=>k false) (fun _=>false) (fun _=>false) false false false g) v
def nilM (v:V) (k:Bool→Bool):Bool:=V.rec (motive:=fun _=>Bool) (fun _=>false) (fun _=>false) (fun _=>false) (fun _ _=>false) (fun _ _ _ _=>false) (fun _ _ _ _ _=>false) (fun g _ _ _ _=>Tag.rec (motive:=fun _=>Bool) (fun _ _=>false) false false false false (k true) false false false false false (fun _=>false) (fun _=>false) (fun _=>k false) false false false g) v
def eqN (nk:V→(Bool→Bool)→Bool) (f:Bool→Bool) (x y:V) (k:V→Bool):Bool:=nk x fun a=>nk y fun b=>both (bs a true b) (k (.t (f (both a b))))
def negV (x:V) (k:V→Bool):Bool:=onW x fun a=>k (.w ((two64+two64-a) % two64))
def tagC (g:Tag):Nat:=Tag.rec (motive:=fun _=>Nat) (fun _ _=>0) 1 2 3 4 5 6 7 8 9 10 (fun _=>11) (fun _=>12) (fun _=>13) 14 15 16 g
def tagA (g:Tag):Nat:=Tag.rec (motive:=fun _=>Nat) (fun _ _=>0) 0 0 0 0 0 0 0 0 0 0 (fun t=>t) (fun t=>t) (fun t=>t) 0 0 0 g
def eqG (g h:Tag):Bool:=both (Nat.beq (tagC g) (tagC h)) (both (Nat.beq (tagA g) (tagA h)) (both (decide (tgK g=tgK h)) (decide (tgN g=tgN h))))
def eqV (a:V):V→Bool:=V.rec (motive:=fun _=>V→Bool) (fun n b=>onW b (Nat.beq n)) (fun n b=>onY b (Nat.beq n)) (fun t b=>onT b fun u=>bs t u (nots u))
 (fun l n b=>onS b fun l' n'=>both (Nat.beq l l') (Nat.beq n n')) (fun i o l v b=>onP b fun i' o' l' v'=>both (Nat.beq i i') (both (Nat.beq o o') (both (Nat.beq l l') (Nat.beq v v'))))
 (fun i o l v z b=>onSl b false fun i' o' l' v' z'=>both (Nat.beq i i') (both (Nat.beq o o') (both (Nat.beq l l') (both (Nat.beq v v') (Nat.beq z z')))))
 (fun g _ _ iha ihb b=>V.rec (motive:=fun _=>Bool) (fun _=>false) (fun _=>false) (fun _=>false) (fun _ _=>false) (fun _ _ _ _=>false) (fun _ _ _ _ _=>false) (fun g' a' b' _ _=>both (eqG g g') (both (iha a') (ihb b'))) b) a
end
end Go.Bvm
set_option linter.unusedVariables false
namespace Go.Bvm
noncomputable section
def iadV (esz:Nat) (x y:V) (k:V→Bool):Bool:=onSl x false fun id off len ver es=>onW y fun i=>
 both (Nat.beq es esz) (both (Nat.ble bias i) (both (Nat.ble (i+1) (len+bias)) (k (.p id (off+(i-bias)*esz) (off+len*esz) ver))))
def iaaV (esz n:Nat) (x y:V) (k:V→Bool):Bool:=onP x fun id off lim ver=>onW y fun i=>
 both (Nat.ble bias i) (both (Nat.ble (i+1) (n+bias)) (k (.p id (off+(i-bias)*esz) lim ver)))
def lenS (v:V) (k:V→Bool):Bool:=onS v fun l _=>both (Nat.ble l 4611686018427387904) (k (.w (l+bias)))
def lenL (v:V) (k:V→Bool):Bool:=bs (vtagOS v) (k (.x .nn V.nil V.nil)) <| onSl v (k (.w bias)) fun _ _ c _ _=>both (Nat.ble c 4611686018427387904) (k (.w (c+bias)))
def bnd (x:Option V) (d:Nat) (k:Nat→Bool):Bool:=match x with | none=>k d | some v=>onW v fun i=>both (Nat.ble bias i) (k (Nat.sub i bias))
def sstr (lo hi:Option V) (x:V) (k:V→Bool):Bool:=onS x fun l n=>bnd hi l fun b=>both (Nat.ble b l) (bnd lo 0 fun a=>both (Nat.ble a b) (k (ssub l n a b)))
def ssli (esz:Nat) (lo hi:Option V) (x:V) (k:V→Bool):Bool:=
 onSl x (bnd hi 0 fun b=>both (Nat.ble b 0) (bnd lo 0 fun a=>both (Nat.ble a b) (k (.x .slnil V.nil V.nil))))
  fun id off len ver es=>both (Nat.beq es esz) (bnd hi len fun b=>both (Nat.ble b len) (bnd lo 0 fun a=>both (Nat.ble a b) (k (.sl id (off+a*esz) (b-a) ver esz))))
def sarr (esz n:Nat) (lo hi:Option V) (x:V) (k:V→Bool):Bool:=
 onP x fun id off lim ver=>both (Nat.ble (off+n*esz) lim) (bnd hi n fun b=>both (Nat.ble b n) (bnd lo 0 fun a=>both (Nat.ble a b) (k (.sl id (off+a*esz) (b-a) ver esz))))
def room (n:Nat) (c:Arr):Arr:=bs (Nat.ble n (acap c)) c (agrowTo n c)
def acopy (c:Arr):(n i j:Nat)→Arr→Arr:=Nat.rec (fun _ _ c'=>c') (fun _ ih i j c'=>ih (i+1) (j+1) (aset j (aget i c) c'))
def abytes:(l n j:Nat)→Arr→Arr:=Nat.rec (fun _ _ c=>c) (fun _ ih n j c=>ih (n / 256) (j+1) (aset j (.y (n % 256)) c))
def onSrc (esz:Nat) (v:V) (h:H) (k:(n:Nat)→(Nat→Arr→Arr)→Bool):Bool:=
 V.rec (motive:=fun _=>Bool) (fun _=>false) (fun _=>false) (fun _=>false) (fun l n=>both (Nat.beq esz 1) (k l (fun j c=>abytes l n j c))) (fun _ _ _ _=>false)
  (fun id off len ver es=>both (Nat.beq es esz) (onBk (hget id h.tr) fun c size bver _ _ _ _=>both (Nat.beq ver bver) (k len (fun j c'=>acopy c (len*esz) off j c'))))
  (fun g _ _ _ _=>Tag.rec (motive:=fun _=>Bool) (fun _ _=>false) false (k 0 (fun _ c=>c)) false false false false false false false false (fun _=>false) (fun _=>false) (fun _=>false) false false false g) v
def app (esz elem:Nat) (x y:V) (h:H) (k:KV):Bool:=
 both (Nat.ble 1 esz) (onSrc esz y h fun n src=>bs (Nat.beq n 0) (onSl x (k x h) (fun _ _ _ _ _=>k x h))
  (onSl x
   (both (Nat.ble (n*esz) 17179869184) (both (Nat.ble 0 (h.next+1)) (k (.sl h.next 0 n 0 esz) ⟨h.next+1,hset h.next (.bk (src 0 (fresh (n*esz))) (n*esz) 0 0 elem false true) h.tr⟩)))
   fun id off len ver es=>both (Nat.beq es esz) (onBk (hget id h.tr) fun c size bver frz el ex own=>
    both own (both (Nat.beq ver bver) (both (both (Nat.beq el elem) (Nat.ble frz (off+len*esz)))
     (bs (both (Nat.beq off 0) (Nat.beq (len*esz) size))
      (both (Nat.ble (size+n*esz) 17179869184) (k (.sl id 0 (len+n) (ver+1) esz) ⟨h.next,hset id (.bk (src size (room (size+n*esz) c)) (size+n*esz) (ver+1) frz elem false true) h.tr⟩))
      (both (Nat.ble (len*esz+n*esz) 17179869184) (both (Nat.ble 0 (h.next+1)) (k (.sl h.next 0 (len+n) 0 esz)
       ⟨h.next+1,hset h.next (.bk (src (len*esz) (acopy c (len*esz) off 0 (fresh (len*esz+n*esz)))) (len*esz+n*esz) 0 frz elem false true) (hset id .nb h.tr)⟩)))))))))
def s2bA (id elem:Nat) (x:V) (h:H) (k:KV):Bool:=onS x fun l n=>
 both (Nat.ble l 17179869184) (k (.sl id 0 l 0 1) ⟨h.next,hset id (.bk (abytes l n 0 (fresh l)) l 0 0 elem false true) h.tr⟩)
def packA (c:Arr):(n i:Nat)→(Nat→Bool)→Bool:=Nat.rec (motive:=fun _=>Nat→(Nat→Bool)→Bool) (fun _ k=>k 0) (fun _ ih i k=>onY (aget i c) (fun b=>ih (i+1) fun r=>k (b+256*r)))
def b2s (x:V) (h:H) (k:V→Bool):Bool:=onSl x (k (.s 0 0)) fun id off len ver es=>both (Nat.beq es 1)
 (onBk (hget id h.tr) fun c _ bver _ _ _ _=>both (Nat.beq ver bver) (packA c len off fun r=>k (.s len r)))
def toW (v:V) (k:V→Bool):Bool:=V.rec (motive:=fun _=>Bool) (fun n=>k (.w n)) (fun n=>k (.w (n+bias))) (fun _=>false) (fun _ _=>false) (fun _ _ _ _=>false) (fun _ _ _ _ _=>false)
 (fun g _ _ _ _=>Tag.rec (motive:=fun _=>Bool) (fun _ n=>k (.w ((IntKind.wrap .i64 n+9223372036854775808).toNat))) false false false false false false false false false false (fun _=>false) (fun _=>false) (fun _=>false) false false false g) v
def toY (v:V) (k:V→Bool):Bool:=V.rec (motive:=fun _=>Bool) (fun n=>k (.y (n % 256))) (fun n=>k (.y n)) (fun _=>false) (fun _ _=>false) (fun _ _ _ _=>false) (fun _ _ _ _ _=>false)
 (fun g _ _ _ _=>Tag.rec (motive:=fun _=>Bool) (fun _ n=>k (.y ((IntKind.wrap .u8 n).toNat))) false false false false false false false false false false (fun _=>false) (fun _=>false) (fun _=>false) false false false g) v
def toI (q:IntKind) (v:V) (k:V→Bool):Bool:=V.rec (motive:=fun _=>Bool) (fun n=>k (mkI q (q.wrap ((n:Int)-9223372036854775808)))) (fun n=>k (mkI q (q.wrap (n:Int)))) (fun _=>false) (fun _ _=>false) (fun _ _ _ _=>false) (fun _ _ _ _ _=>false)
 (fun g _ _ _ _=>Tag.rec (motive:=fun _=>Bool) (fun _ n=>k (mkI q (q.wrap n))) false false false false false false false false false false (fun _=>false) (fun _=>false) (fun _=>false) false false false g) v
def vapp (a b:V):V:=V.rec (motive:=fun _=>V) (fun _=>b) (fun _=>b) (fun _=>b) (fun _ _=>b) (fun _ _ _ _=>b) (fun _ _ _ _ _=>b)
 (fun g hd _ _ ih=>Tag.rec (motive:=fun _=>V) (fun _ _=>b) b b b b b b b b (.x .cons hd ih) b (fun _=>b) (fun _=>b) (fun _=>b) b b b g) a
def callV (cf:CallF) (x l:V) (h:H) (k:KV):Bool:=onFn x fun f a b=>cf f (vapp (vapp a l) b) h k
def vnth (l:V):Nat→(V→Bool)→Bool:=V.rec (motive:=fun _=>Nat→(V→Bool)→Bool) (fun _ _ _=>false) (fun _ _ _=>false) (fun _ _ _=>false) (fun _ _ _ _=>false) (fun _ _ _ _ _ _=>false) (fun _ _ _ _ _ _ _=>false)
 (fun g hd _ _ ih n k=>Tag.rec (motive:=fun _=>Bool) (fun _ _=>false) false false false false false false false false (Nat.rec (motive:=fun _=>Bool) (k hd) (fun m _=>ih m k) n) false (fun _=>false) (fun _=>false) (fun _=>false) false false false g) l
def ext (i:Nat) (x:V) (k:V→Bool):Bool:=onTup x fun l=>vnth l i k
def vtake (l:V):Nat→(V→Bool)→Bool:=V.rec (motive:=fun _=>Nat→(V→Bool)→Bool) (fun _ _ _=>false) (fun _ _ _=>false) (fun _ _ _=>false) (fun _ _ _ _=>false) (fun _ _ _ _ _ _=>false) (fun _ _ _ _ _ _ _=>false)
 (fun g hd _ _ ih n k=>Tag.rec (motive:=fun _=>Bool) (fun _ _=>false) false false false false false false false false (Nat.rec (motive:=fun _=>Bool) (k V.nil) (fun m _=>ih m fun r=>k (.x .cons hd r)) n)
  (Nat.rec (motive:=fun _=>Bool) (k V.nil) (fun _ _=>false) n) (fun _=>false) (fun _=>false) (fun _=>false) false false false g) l
def vdrop (l:V):Nat→(V→Bool)→Bool:=V.rec (motive:=fun _=>Nat→(V→Bool)→Bool) (fun _ _ _=>false) (fun _ _ _=>false) (fun _ _ _=>false) (fun _ _ _ _=>false) (fun _ _ _ _ _ _=>false) (fun _ _ _ _ _ _ _=>false)
 (fun g hd tl _ ih n k=>Tag.rec (motive:=fun _=>Bool) (fun _ _=>false) false false false false false false false false (Nat.rec (motive:=fun _=>Bool) (k (.x .cons hd tl)) (fun m _=>ih m k) n)
  (Nat.rec (motive:=fun _=>Bool) (k V.nil) (fun _ _=>false) n) (fun _=>false) (fun _=>false) (fun _=>false) false false false g) l
def fieldV (one:Bool) (o n:Nat) (v:V) (k:V→Bool):Bool:=onAgg v fun l=>vdrop l o fun r=>bs one (vnth r 0 k) (vtake r n fun q=>k (.x .agg q V.nil))
def vput (l:V):(off:Nat)→V→(V→Bool)→Bool:=V.rec (motive:=fun _=>Nat→V→(V→Bool)→Bool) (fun _ _ _ _=>false) (fun _ _ _ _=>false) (fun _ _ _ _=>false) (fun _ _ _ _ _=>false) (fun _ _ _ _ _ _ _=>false) (fun _ _ _ _ _ _ _ _=>false)
 (fun g hd tl _ ih off vs k=>Tag.rec (motive:=fun _=>Bool) (fun _ _=>false) false false false false false false false false
  (Nat.rec (motive:=fun _=>Bool)
   (V.rec (motive:=fun _=>Bool) (fun _=>false) (fun _=>false) (fun _=>false) (fun _ _=>false) (fun _ _ _ _=>false) (fun _ _ _ _ _=>false)
    (fun g' v vr _ _=>Tag.rec (motive:=fun _=>Bool) (fun _ _=>false) false false false false false false false false (ih 0 vr fun r=>k (.x .cons v r)) (k (.x .cons hd tl)) (fun _=>false) (fun _=>false) (fun _=>false) false false false g') vs)
   (fun m _=>ih m vs fun r=>k (.x .cons hd r)) off)
  (Nat.rec (motive:=fun _=>Bool) (V.rec (motive:=fun _=>Bool) (fun _=>false) (fun _=>false) (fun _=>false) (fun _ _=>false) (fun _ _ _ _=>false) (fun _ _ _ _ _=>false)
    (fun g' _ _ _ _=>Tag.rec (motive:=fun _=>Bool) (fun _ _=>false) false false false false false false false false false (k V.nil) (fun _=>false) (fun _=>false) (fun _=>false) false false false g') vs) (fun _ _=>false) off) (fun _=>false) (fun _=>false) (fun _=>false) false false false g) l
def vlen (l:V):Nat:=V.rec (motive:=fun _=>Nat) (fun _=>0) (fun _=>0) (fun _=>0) (fun _ _=>0) (fun _ _ _ _=>0) (fun _ _ _ _ _=>0)
 (fun g _ _ _ ih=>Tag.rec (motive:=fun _=>Nat) (fun _ _=>0) 0 0 0 0 0 0 0 0 (ih+1) 0 (fun _=>0) (fun _=>0) (fun _=>0) 0 0 0 g) l
def part (off:Nat) (one:Bool) (n:Nat) (x l:V) (k:V→Bool):Bool:=
 bs one (both (Nat.beq n 1) (both (oneV x) (vput l off (.x .cons x V.nil) k))) (onAgg x fun q=>both (Nat.beq (vlen q) n) (vput l off q k))
def bslA (id len esz elem:Nat) (l:V) (h:H) (k:KV):Bool:=both (Nat.ble (len*esz) 4096)
 (lay l (len*esz) 0 (fresh (len*esz)) fun c=>k (.sl id 0 len 0 esz) ⟨h.next,hset id (.bk c (len*esz) 0 0 elem true true) h.tr⟩)
def onCons (l:V) (k:V→V→Bool):Bool:=V.rec (motive:=fun _=>Bool) (fun _=>false) (fun _=>false) (fun _=>false) (fun _ _=>false) (fun _ _ _ _=>false) (fun _ _ _ _ _=>false) (fun g a b _ _=>Tag.rec (motive:=fun _=>Bool) (fun _ _=>false) false false false false false false false false (k a b) false (fun _=>false) (fun _=>false) (fun _=>false) false false false g) l
def onNil (l:V) (k:Bool):Bool:=V.rec (motive:=fun _=>Bool) (fun _=>false) (fun _=>false) (fun _=>false) (fun _ _=>false) (fun _ _ _ _=>false) (fun _ _ _ _ _=>false) (fun g _ _ _ _=>Tag.rec (motive:=fun _=>Bool) (fun _ _=>false) false false false false false false false false false k (fun _=>false) (fun _=>false) (fun _=>false) false false false g) l
def guardT (x:V) (h:H) (f:KV→Bool) (k:KV):Bool:=V.rec (motive:=fun _=>Bool) (fun _=>false) (fun _=>false) (fun t=>Bool.rec (motive:=fun _=>Bool) (k V.u h) (f k) t) (fun _ _=>false) (fun _ _ _ _=>false) (fun _ _ _ _ _=>false)
  (fun g _ _ _ _=>Tag.rec (motive:=fun _=>Bool) (fun _ _=>false) false false false false false (k V.u h) false false false false (fun _=>false) (fun _=>false) (fun _=>false) false false false g) x
def guardF (x:V) (h:H) (f:KV→Bool) (k:KV):Bool:=V.rec (motive:=fun _=>Bool) (fun _=>false) (fun _=>false) (fun t=>Bool.rec (motive:=fun _=>Bool) (f k) (k V.u h) t) (fun _ _=>false) (fun _ _ _ _=>false) (fun _ _ _ _ _=>false)
  (fun g _ _ _ _=>Tag.rec (motive:=fun _=>Bool) (fun _ _=>false) false false false false false (k V.u h) false false false false (fun _=>false) (fun _=>false) (fun _=>false) false false false g) x
def seqM (a b:M):M:=fun e h K=>a e h fun x e' h'=>X.rec (motive:=fun _=>Bool) (b e' h' K) (fun i=>K (.x i) e' h') (K .r e' h') x
def condV (x:V) (a b:Bool):Bool:=V.rec (motive:=fun _=>Bool) (fun _=>false) (fun _=>false) (fun t=>Bool.rec (motive:=fun _=>Bool) b a t) (fun _ _=>false) (fun _ _ _ _=>false) (fun _ _ _ _ _=>false) (fun _ _ _ _ _=>false) x
def unX (i:Nat) (x:X):X:=X.rec (motive:=fun _=>X) .n (fun j=>bs (Nat.beq j i) .n (.x j)) .r x
def blockM (i:Nat) (a:M):M:=fun e h K=>a e h fun x e' h'=>K (unX i x) e' h'
def loopM (fuel:Nat) (a:M):M:=Nat.rec (motive:=fun _=>M) (fun _ _ _=>false) (fun _ ih e h K=>a e h fun x e' h'=>X.rec (motive:=fun _=>Bool) (ih e' h' K) (fun i=>K (.x i) e' h') (K .r e' h') x) fuel
def isPnil (v:V):Bool:=V.rec (motive:=fun _=>Bool) (fun _=>false) (fun _=>false) (fun _=>false) (fun _ _=>false) (fun _ _ _ _=>false) (fun _ _ _ _ _=>false) (fun g _ _ _ _=>Tag.rec (motive:=fun _=>Bool) (fun _ _=>false) true false false false false false false false false false (fun _=>false) (fun _=>false) (fun _=>false) false false false g) v
def cvU (x:V) (h:H) (k:V→Bool):Bool:=bs (isPnil x) (k x) (onP x fun id off lim ver=>onBk (hget id h.tr) fun c size bver frz elem ex own=>both (Nat.beq ver bver) (both (Nat.ble (Nat.succ off) lim) (k x)))
def cvP (u n:Nat) (x:V) (h:H) (k:V→Bool):Bool:=bs (isPnil x) (k x) (onP x fun id off lim ver=>onBk (hget id h.tr) fun c size bver frz elem ex own=>both (Nat.beq ver bver) (both (Nat.beq elem u) (both (Nat.beq off 0) (both ex (both (Nat.beq size n) (k x))))))
def eqPt (f:Bool→Bool) (x y:V) (k:V→Bool):Bool:=bs (both (isP x) (isP y)) (onP x fun i o _ v=>onP y fun i' o' _ v'=>both (Nat.beq i i') (both (Nat.beq o o') (both (Nat.beq v v') (k (.t (f true)))))) (eqN nilP f x y k)
def sdata (x:V) (k:V→Bool):Bool:=onSl x (k (.x .pnil V.nil V.nil)) fun id off len ver es=>both (Nat.ble 1 len) (k (.p id off (off+len*es) ver))
def usS (e:Nat) (x y:V) (h:H) (k:KV):Bool:=onW y fun m=>both (Nat.ble bias m) (bs (Nat.beq m bias) (bs (isPnil x) (k (.s 0 0) h) (onP x fun _ _ _ _=>k (.s 0 0) h))
 (onP x fun id off lim ver=>onBk (hget id h.tr) fun c size bver frz elem ex own=>both own (both (Nat.beq ver bver) (both (Nat.ble (off+(m-bias)) lim) (both (both (Nat.beq elem e) (Nat.ble (m-bias) 1000000000))
  (packA c (m-bias) off fun r=>k (.s (m-bias) r) ⟨h.next,hset id (.bk c size bver frz elem ex false) h.tr⟩))))))
def eqI (x y:V) (k:Bool→Bool):Bool:=bs (isW x) (onW x fun a=>onW y fun b=>k (Nat.beq a b)) (bs (isY x) (onY x fun a=>onY y fun b=>k (Nat.beq a b)) (onI x fun q n=>onI y fun q' m=>both (decide (q=q')) (k (decide (n=m)))))
def eq1 (c:Nat) (x y:V) (k:Bool→Bool):Bool:=bs (Nat.beq c 0) (eqI x y k) (bs (Nat.beq c 1) (onS x fun l n=>onS y fun l' n'=>k (seqB l n l' n')) (onT x fun a=>onT y fun b=>k (bs a b (nots b))))
def eqLs (ks:List Nat):V→V→(Bool→Bool)→Bool:=List.rec (motive:=fun _=>V→V→(Bool→Bool)→Bool) (fun x y k=>onNil x (onNil y (k true))) (fun c _ ih x y k=>onCons x fun a x'=>onCons y fun b y'=>eq1 c a b fun r=>ih x' y' fun q=>k (bs r q false)) ks
def eqAg (ks:List Nat) (f:Bool→Bool) (x y:V) (k:V→Bool):Bool:=onAgg x fun l=>onAgg y fun m=>eqLs ks l m fun r=>k (.t (f r))
def cvS (x:V) (h:H) (k:KV):Bool:=onSl x false fun id off len ver es=>both (Nat.ble 1 len) (onBk (hget id h.tr) fun c size bver frz elem ex own=>both own (both (Nat.beq ver bver) (k x ⟨h.next,hset id (.bk c size bver frz elem ex false) h.tr⟩)))
def onIt (b:Blk) (k:Nat→Nat→Nat→Bool):Bool:=Blk.rec (motive:=fun _=>Bool) false (fun _ _ _ _ _ _ _=>false) (fun _=>false) (fun l n pos=>k l n pos) (fun _ _ _=>false) b
def onMp (b:Blk) (k:V→Bool):Bool:=Blk.rec (motive:=fun _=>Bool) false (fun _ _ _ _ _ _ _=>false) (fun kv=>k kv) (fun _ _ _=>false) (fun _ _ _=>false) b
def itA (id:Nat) (x:V) (h:H) (k:KV):Bool:=onS x fun l n=>both (Nat.ble l 1000000000) (k (.p id 0 0 0) ⟨h.next,hset id (.it l n 0) h.tr⟩)
def unpk:(l n:Nat)→List UInt8:=Nat.rec (motive:=fun _=>Nat→List UInt8) (fun _=>[]) (fun _ ih n=>UInt8.ofNat (n % 256)::ih (n / 256))
def decH (l n:Nat):Nat×Nat:=Utf8.decode ⟨(unpk l n).toArray⟩ 0
def itH (d:Nat×Nat) (id l n pos:Nat) (h:H) (k:KV):Bool:=both (Nat.ble (pos+d.2) l) (k (.x .tup (.x .cons (.t true) (.x .cons (.w (pos+bias)) (.x .cons (mkI .i32 (Int.ofNat d.1)) V.nil))) V.nil) ⟨h.next,hset id (.it l (n / 256 ^ d.2) (pos+d.2)) h.tr⟩)
def itN (x:V) (h:H) (k:KV):Bool:=onP x fun id off lim ver=>both (Nat.beq off 0) (both (Nat.beq ver 0) (onIt (hget id h.tr) fun l n pos=>both (Nat.ble l 1000000000) (bs (Nat.ble l pos) (k (.x .tup (.x .cons (.t false) V.nil) V.nil) h)
 (bs (Nat.ble (Nat.mod n 256) 127) (k (.x .tup (.x .cons (.t true) (.x .cons (.w (pos+bias)) (.x .cons (mkI .i32 (Int.ofNat (Nat.mod n 256))) V.nil))) V.nil) ⟨h.next,hset id (.it l (Nat.div n 256) (Nat.succ pos)) h.tr⟩) (itH (decH (Nat.sub l pos) n) id l n pos h k)))))
def mapA (id:Nat) (h:H) (k:KV):Bool:=k (.x (.map id) V.nil V.nil) ⟨h.next,hset id (.mp V.nil) h.tr⟩
def fndK (l n:Nat) (kv:V):(V→Bool)→Bool→Bool:=V.rec (motive:=fun _=>(V→Bool)→Bool→Bool) (fun _ _ _=>false) (fun _ _ _=>false) (fun _ _ _=>false) (fun _ _ _ _=>false) (fun _ _ _ _ _ _=>false) (fun _ _ _ _ _ _ _=>false)
 (fun g e _ _ ih yes no=>Tag.rec (motive:=fun _=>Bool) (fun _ _=>false) false false false false false false false false (onCons e fun key val=>onS key fun l' n'=>bs (seqB l n l' n') (yes val) (ih yes no)) no (fun _=>false) (fun _=>false) (fun _=>false) false false false g) kv
def onMap (v:V) (kn:Bool) (k:Nat→Bool):Bool:=V.rec (motive:=fun _=>Bool) (fun _=>false) (fun _=>false) (fun _=>false) (fun _ _=>false) (fun _ _ _ _=>false) (fun _ _ _ _ _=>false) (fun g _ _ _ _=>Tag.rec (motive:=fun _=>Bool) (fun _ _=>false) false false false false kn false false false false false (fun _=>false) (fun _=>false) (fun id=>k id) false false false g) v
def mpI (x y z:V) (h:H) (k:KV):Bool:=onMap x false fun id=>onS y fun l n=>onMp (hget id h.tr) fun kv=>fndK l n kv (fun _=>false) (k V.u ⟨h.next,hset id (.mp (vapp kv (.x .cons (.x .cons y z) V.nil))) h.tr⟩)
def mpR (ok:Bool) (v:V) (b:Bool):V:=bs ok (.x .tup (.x .cons v (.x .cons (.t b) V.nil)) V.nil) v
def mpL (ok:Bool) (zero x y:V) (h:H) (k:V→Bool):Bool:=onS y fun l n=>onMap x (k (mpR ok zero false)) fun id=>onMp (hget id h.tr) fun kv=>fndK l n kv (fun v=>k (mpR ok v true)) (k (mpR ok zero false))
end
end Go.Bvm
set_option linter.unusedVariables false
namespace Go.Bvm
noncomputable section
def pack:List UInt8→Nat
 | []=>0
 | b::r=>b.toNat+256*pack r
mutual
def absV:Value→Option V
 | .bool b=>some (.t b)
 | .int .i64 n=>if 0≤n+9223372036854775808∧n<9223372036854775808 then some (.w (n+9223372036854775808).toNat) else none
 | .int .u8 n=>if 0≤n∧n<256 then some (.y n.toNat) else none
 | .int k n=>some (mkI k n)
 | .string s=>some (.s s.size (pack s.data.toList))
 | .pointer none=>some (.x .pnil V.nil V.nil)
 | .slice none 0 0=>some (.x .slnil V.nil V.nil)
 | .nilFunc=>some (.x .fnil V.nil V.nil)
 | .nilIface=>some (.x .inil V.nil V.nil)
 | .map none=>some (.x .mnil V.nil V.nil)
 | .agg ⟨l⟩=>match absL l with | some q=>if l.all Value.oneCell'=true then some (.x .agg q V.nil) else none | none=>none
 | _=>none
def absL:List Value→Option V
 | []=>some V.nil
 | v::r=>match absV v,absL r with | some a,some b=>some (.x .cons a b) | _,_=>none
end
variable (P:Program) (G:Nat→Bool) (cf:CallF) (lf:Nat) (N:Fr)
abbrev sizeT (t:TypeId):Nat:=match P.info? t with | some i=>i.size | none=>0
abbrev oneT (t:TypeId):Bool:=match P.underlying t with | some (.struct _)=>false | some (.array _ _)=>false | _=>true
abbrev hasT (t:TypeId):Bool:=match P.underlying t with | some _=>true | none=>false
abbrev opr (ρ:TL) (e:L8):Operand→Option V
 | .tmp t=>if t<N.n then some (getT N t ρ e) else none
 | .const v=>absV v
 | .global g=>if G g=true then (match P.globals[g]? with | some q=>some (.p g 0 (sizeT P q.type) 0) | none=>none) else none
 | .func f=>some (.x (.func f) V.nil V.nil)
variable (q:Operand→Option V)
abbrev oprs:List Operand→Option V
 | []=>some V.nil
 | x::r=>match q x,oprs r with | some a,some b=>some (.x .cons a b) | _,_=>none
abbrev un (x:Operand) (f:V→Bool):Bool:=match q x with | some a=>f a | none=>false
abbrev bi (x y:Operand) (f:V→V→Bool):Bool:=match q x,q y with | some a,some b=>f a b | _,_=>false
abbrev bdo (x:Option Operand) (f:Option V→Bool):Bool:=match x with | none=>f none | some y=>match q y with | some a=>f (some a) | none=>false
def eqlP (f:Bool→Bool) (x y:V) (k:V→Bool):Bool:=cmpV (fun a b=>f (Nat.beq a b)) (fun a b=>f (decide (a=b))) (fun l n l' n' k=>k (.t (f (seqB l n l' n')))) x y k
def eqT (f:Bool→Bool) (x y:V) (k:V→Bool):Bool:=onT x fun a=>onT y fun b=>k (.t (f (bs a b (nots b))))
def idB (b:Bool):Bool:=b
abbrev F2:=V→V→(V→Bool)→Bool
abbrev no2:F2:=fun _ _ _=>false
abbrev byK (t:TypeId) (w y z s:F2):F2:=match P.underlying t with
 | some (.int .i64)=>w
 | some (.int .u8)=>y
 | some (.int _)=>z
 | some .string=>s
 | _=>no2
abbrev eqF (f:Bool→Bool) (t:TypeId):F2:=match P.underlying t with
 | some .bool=>eqT f
 | some (.pointer e)=>if hasT P e=true then eqPt f else no2
 | some (.slice _)=>eqN nilS f
 | some (.interface _)=>eqN nilI f
 | some (.map _ _)=>eqN nilM f
 | some (.func ..)=>eqN nilF f
 | _=>no2
abbrev binF (op:BinOp) (t:TypeId):F2:=match op with
 | .add=>byK P t addW addY addV catV
 | .sub=>byK P t subW subY subV no2
 | .mul=>byK P t mulV mulV mulV no2
 | .quo=>byK P t quoV quoV quoV no2
 | .rem=>byK P t remV remV remV no2
 | .lss=>byK P t lssW lssY lssV lssV
 | .leq=>byK P t leqW leqY leqV leqV
 | .gtr=>byK P t gtrW gtrY gtrV gtrV
 | .geq=>byK P t geqV geqY geqV geqV
 | .eql=>match P.underlying t with
  | some (.int .i64)=>eqlW
  | some (.int .u8)=>eqlY
  | some (.int _)=>eqlP idB
  | some .string=>eqlS
  | _=>eqF P idB t
 | .neq=>match P.underlying t with
  | some (.int .i64)=>neqW
  | some (.int .u8)=>neqY
  | some (.int _)=>eqlP nots
  | some .string=>neqS
  | _=>eqF P nots t
 | .shr=>shrV
 | _=>no2
def strV (x:V) (k:V→Bool):Bool:=onS x fun l n=>k (.s l n)
abbrev F1:=V→(V→Bool)→Bool
abbrev no1:F1:=fun _ _=>false
abbrev convF (src dst:TypeId):F1:=match P.underlying src,P.underlying dst with
 | some (.int _),some (.int k)=>if k=.i64 then toW else if k=.u8 then toY else toI k
 | some .string,some .string=>strV
 | _,_=>no1
abbrev parts (place:Nat→Option (Nat×TypeId)):List (Nat×Operand)→V→(V→Bool)→Bool
 | [],l,k=>k l
 | (i,x)::r,l,k=>match place i,q x with
  | some (off,t),some g=>if hasT P t then part off (oneT P t) (sizeT P t) g l fun l'=>parts place r l' k else false
  | _,_=>false
abbrev zcells (z:Value):Option V:=if z.cells.toList.all Value.oneCell'=true then absL z.cells.toList else none
abbrev zslice (z:Value) (n:Nat):Option V:=if z.cells.toList.all Value.oneCell'=true then absL ((List.range n).map fun i=>z.cells[i % z.cells.size]!) else none
abbrev isNilC (x:Operand):Bool:=match x with | .const .nilIface=>true | _=>false
abbrev okEq (op:BinOp) (t:TypeId) (x y:Operand):Bool:=match op,P.underlying t with
 | .eql,some (.interface _)=>isNilC x || isNilC y
 | .neq,some (.interface _)=>isNilC x || isNilC y
 | _,_=>true
abbrev kindsL:List Field→Nat→Option (List Nat)
 | [],_=>some []
 | f::r,i=>if f.offset=i∧f.name≠"_" then (match P.underlying f.type,kindsL r (i+1) with
  | some (.int _),some l=>some (0::l)
  | some .string,some l=>some (1::l)
  | some .bool,some l=>some (2::l)
  | _,_=>none) else none
abbrev flatK (t:TypeId):Option (List Nat):=match P.underlying t with
 | some (.struct fs)=>if P.stoodInHeld t=false∧P.eqGuardType P.depth t=false then kindsL P fs.toList 0 else none
 | _=>none
abbrev pop (o:Op) (k:V→Bool):Bool:=match o with
 | .move x | .assign x=>un q x k
 | .pick c a b=>un q c fun c=>bi q a b fun a b=>pickV c a b k
 | .nilCheck x=>un q x fun a=>nilckV a k
 | .binOp op t x y _=>match flatK P t with
  | some ks=>(match op with | .eql=>bi q x y fun a b=>eqAg ks idB a b k | .neq=>bi q x y fun a b=>eqAg ks nots a b k | _=>false)
  | none=>if okEq P op t x y=true then bi q x y fun a b=>binF P op t a b k else false
 | .unOp .not _ x=>un q x fun a=>notV a k
 | .unOp .neg _ x=>un q x fun a=>negV a k
 | .convert s t x=>un q x fun a=>convF P s t a k
 | .slice t x lo hi none=>match P.underlying t with
  | some (.array n e)=>if hasT P e then bdo q lo fun l=>bdo q hi fun u=>un q x fun a=>sarr (sizeT P e) n l u a k else false
  | some .string=>bdo q lo fun l=>bdo q hi fun u=>un q x fun a=>sstr l u a k
  | some (.slice e)=>if hasT P e then bdo q lo fun l=>bdo q hi fun u=>un q x fun a=>ssli (sizeT P e) l u a k else false
  | _=>false
 | .fieldAddr s x f=>match P.underlying s with
  | some (.struct fs)=>match fs[f]? with
   | some r=>if sizeT P r.type=0 then false else un q x fun a=>fadV r.offset a k
   | none=>false
  | _=>false
 | .indexAddr t x i=>match P.underlying t with
  | some (.slice e)=>if hasT P e then bi q x i fun a b=>iadV (sizeT P e) a b k else false
  | some (.array n e)=>if hasT P e then bi q x i fun a b=>iaaV (sizeT P e) n a b k else false
  | _=>false
 | .index t x i=>match P.underlying t with
  | some .string=>bi q x i fun a b=>sidxV a b k
  | _=>false
 | .field t x f=>match P.underlying t with
  | some (.struct fs)=>match fs[f]? with
   | some r=>if hasT P r.type then un q x fun a=>fieldV (oneT P r.type) r.offset (sizeT P r.type) a k else false
   | none=>false
  | _=>false
 | .build t ps=>match P.underlying t,P.info? t with
  | some (.struct fs),some i=>match i.zero with
   | some z=>if fs.toList.all (fun f=>hasT P f.type)=true then (match zcells z with
    | some v=>parts P q (fun j=>(fs[j]?).map fun f=>(f.offset,f.type)) ps.toList v fun l=>k (.x .agg l V.nil)
    | none=>false) else false
   | none=>false
  | _,_=>false
 | .makeFunc (.func f) first captured=>match oprs q first.toList,oprs q captured.toList with
  | some a,some b=>k (.x (.func f) a b)
  | _,_=>false
 | .makeInterface t x=>match P.underlying t with
  | some (.interface _)=>false
  | some _=>un q x fun a=>k (.x (.iface t) a V.nil)
  | none=>false
 | .extract x i=>un q x fun a=>ext i a k
 | .call ⟨.builtin b,xs,ts⟩=>match b,xs.toList,ts[0]? with
  | .len,[x],some t=>match P.underlying t with
   | some .string=>un q x fun a=>lenS a k
   | some (.slice _)=>un q x fun a=>lenL a k
   | _=>false
  | .unsafeSliceData,[x],_=>un q x fun a=>sdata a k
  | .cap,[x],some t=>match P.underlying t with
   | some (.slice _)=>un q x fun a=>capL a k
   | _=>false
  | .copy,[x,y],some t=>match P.underlying t,ts.toList with
   | some (.slice e),[_,_]=>if (P.info? e).map (·.size)=some 1 then bi q x y fun a b=>copL a b k else false
   | _,_=>false
  | .max,[x,y],_=>bi q x y fun a b=>maxV a b k
  | .min,[x,y],_=>bi q x y fun a b=>minV a b k
  | _,_,_=>false
 | _=>false
abbrev lop (o:Op) (h:H) (k:V→Bool):Bool:=match o with
 | .load t a=>if hasT P t then un q a fun a=>(if oneT P t=true then ld1 a h k else lda (sizeT P t) a h k) else false
 | .convert s t x=>match P.underlying s,P.underlying t with
  | some (.slice e),some .string=>match P.underlying e with
   | some (.int .u8)=>un q x fun a=>b2s a h k
   | _=>false
  | some (.pointer u),some .unsafePointer=>if sizeT P u=0 then false else un q x fun a=>cvU a h k
  | some .unsafePointer,some (.pointer u)=>if liesAt P P.depth u (sizeT P u / P.cellsOf u) 0 u 1=true then (if sizeT P u=0 then false else un q x fun a=>cvP u (sizeT P u) a h k) else false
  | _,_=>false
 | .lookup t x i ok=>match P.underlying t with
  | some (.map kt et)=>(match P.underlying kt,P.info? et with
   | some .string,some j=>(match j.zero with
    | some z=>(match absV z with | some a=>bi q x i fun u v=>mpL ok a u v h k | none=>false)
    | none=>false)
   | _,_=>false)
  | _=>false
 | _=>false
abbrev aop (o:Op) (id:Nat) (h:H) (k:KV):Bool:=match o with
 | .box e x=>if hasT P e then un q x fun a=>newA id (oneT P e) (sizeT P e) e a h k else false
 | .alloc e=>if hasT P e then match P.info? e with
  | some i=>match i.zero with
   | some z=>match absV z with
    | some a=>newA id (oneT P e) (sizeT P e) e a h k
    | none=>false
   | none=>false
  | none=>false else false
 | .convert s t x=>match P.underlying s,P.underlying t with
  | some .string,some (.slice e)=>match P.underlying e with
   | some (.int .u8)=>un q x fun a=>s2bA id e a h k
   | _=>false
  | _,_=>false
 | .buildSlice t len ps=>match P.underlying t with
  | some (.slice e)=>match P.info? e with
   | some i=>match i.zero with
    | some z=>if hasT P e=true∧len*i.size≤4096∧1≤i.size∧z.cells.size=i.size then (match zslice z (len*i.size) with
     | some v=>parts P q (fun j=>some (j*i.size,e)) ps.toList v fun l=>bslA id len i.size e l h k
     | none=>false) else false
    | none=>false
   | none=>false
  | _=>false
 | .range t x=>match P.underlying t with
  | some .string=>un q x fun a=>itA id a h k
  | _=>false
 | .makeMap t none=>mapA id h k
 | .makeSlice t x y=>match P.underlying t with
  | some (.slice e)=>match P.info? e with
   | some i=>match i.zero with
    | some z=>match absV z with
     | some v=>if i.size=1∧i.bytes≤4096∧z.oneCell'=true then bi q x y fun a b=>mkslA id e v a b h k else false
     | none=>false
    | none=>false
   | none=>false
  | _=>false
 | _=>false
abbrev appOp (ts:Array TypeId) (x y:Operand) (h:H) (k:KV):Bool:=match ts[0]? with
 | some t=>match P.underlying t,ts[1]? with
  | some (.slice e),some u=>match P.underlying u,P.info? e with
   | some .string,some i=>if i.bytes≤4096 then (match i.zero with | some z=>if z.cells.size=i.size then bi q x y fun a b=>app i.size e a b h k else false | none=>false) else false
   | some (.slice _),some i=>if i.bytes≤4096 then (match i.zero with | some z=>if z.cells.size=i.size then bi q x y fun a b=>app i.size e a b h k else false | none=>false) else false
   | _,_=>false
  | _,_=>false
 | none=>false
abbrev fop (o:Op) (h:H) (k:KV):Bool:=match o with
 | .store t a x=>if hasT P t then bi q a x fun a b=>st (oneT P t) (sizeT P t) a b h k else false
 | .call ⟨.value (.func f),xs,_⟩=>match oprs q xs.toList with | some l=>cf f l h k | none=>false
 | .call ⟨.value x,xs,_⟩=>match oprs q xs.toList with | some l=>un q x fun a=>callV cf a l h k | none=>false
 | .call ⟨.builtin .append,xs,ts⟩=>match xs.toList with | [x,y]=>appOp P q ts x y h k | _=>false
 | .next x true=>un q x fun a=>itN a h k
 | .insert t x y z=>match P.underlying t with
  | some (.map kt _)=>(match P.underlying kt with
   | some .string=>un q x fun a=>bi q y z fun b c=>mpI a b c h k
   | _=>false)
  | _=>false
 | .convert s t x=>match P.underlying s,P.underlying t with
  | some (.slice e),some (.slice e')=>if s=t∧e=e' then (match P.underlying e with | some (.int .u8)=>un q x fun a=>cvS a h k | _=>false) else false
  | _,_=>false
 | .call ⟨.builtin .unsafeString,xs,ts⟩=>match xs.toList,ts.toList with
  | [x,y],[t,_]=>match P.underlying t with
   | some (.pointer e)=>if P.cellsOf e=1 then bi q x y fun a b=>usS e a b h k else false
   | _=>false
  | _,_=>false
 | _=>false
inductive Cl where
 | p | l | a | f
abbrev clOf (o:Op):Cl:=match o with
 | .load ..=>.l
 | .box ..=>.a
 | .alloc ..=>.a
 | .buildSlice ..=>.a
 | .store ..=>.f
 | .lookup ..=>.l
 | .range ..=>.a
 | .makeMap ..=>.a
 | .makeSlice ..=>.a
 | .next ..=>.f
 | .insert ..=>.f
 | .call ⟨.builtin .append,_,_⟩=>.f
 | .call ⟨.builtin .unsafeString,_,_⟩=>.f
 | .call ⟨.builtin _,_,_⟩=>.p
 | .call _=>.f
 | .convert s t _=>match P.underlying s,P.underlying t with
  | some (.slice _),some (.slice _)=>.f
  | some (.slice _),_=>.l
  | some (.pointer _),_=>.l
  | some .unsafePointer,_=>.l
  | _,some (.slice _)=>.a
  | _,_=>.p
 | _=>.p
abbrev vop (o:Op) (h:H) (k:KV):Bool:=match clOf P o with
 | .p=>pop P q o fun v=>k v h
 | .l=>lop P q o h fun v=>k v h
 | .a=>resv 1 h fun id h'=>aop P q o id h' k
 | .f=>fop P cf q o h k
end
noncomputable section
variable (P:Program) (G:Nat→Bool) (cf:CallF) (lf:Nat) (N:Fr)
abbrev put (d:Option Tmp) (v:V) (ρ:TL) (e:L8) (k:TL→L8→Bool):Bool:=match d with
 | none=>k ρ e
 | some t=>if t<N.n then (match idx N.l t with | some i=>putL i v e fun e'=>k (.c t v ρ) e' | none=>k (.c t v ρ) e) else false
abbrev goR (ops:Array Oper) (i:Nat) (ρ:TL) (e:L8) (h:H) (k:KV):Bool:=match ops[i]? with
 | none=>false
 | some o=>match o.guard with
  | none=>vop P cf (opr P G N ρ e) o.op h k
  | some (j,b)=>match ops[j]? with
   | some r=>match r.dst with
    | some g=>if g<N.n then (if b=true then guardT (getT N g ρ e) h (vop P cf (opr P G N ρ e) o.op h) k else guardF (getT N g ρ e) h (vop P cf (opr P G N ρ e) o.op h) k) else false
    | none=>false
   | none=>false
abbrev dstR (ops:Array Oper) (i:Nat):Option Tmp:=match ops[i]? with | some o=>o.dst | none=>none
abbrev runR (ops:Array Oper) (l:List Nat):TL→L8→H→KT→Bool:=List.rec (motive:=fun _=>TL→L8→H→KT→Bool)
 (fun ρ e h K=>K ρ e h)
 (fun i _ ih ρ e h K=>goR P G cf N ops i ρ e h fun v h'=>put N (dstR ops i) v ρ e fun ρ' e'=>ih ρ' e' h' K) l
abbrev vopD (q:Operand→Option V) (id:Nat) (o:Op) (h:H) (k:KV):Bool:=match clOf P o with
 | .p=>pop P q o fun v=>k v h
 | .l=>lop P q o h fun v=>k v h
 | .a=>aop P q o id h k
 | .f=>fop P cf q o h k
abbrev goD (ops:Array Oper) (id i:Nat) (ρ:TL) (e:L8) (h:H) (k:KV):Bool:=match ops[i]? with
 | none=>false
 | some o=>match o.guard with
  | none=>vopD P cf (opr P G N ρ e) id o.op h k
  | some (j,b)=>match ops[j]? with
   | some r=>match r.dst with
    | some g=>if g<N.n then (if b=true then guardT (getT N g ρ e) h (vopD P cf (opr P G N ρ e) id o.op h) k else guardF (getT N g ρ e) h (vopD P cf (opr P G N ρ e) id o.op h) k) else false
    | none=>false
   | none=>false
abbrev chksD (ops:Array Oper):List Nat→TL→L8→H→Bool→Bool
 | [],ρ,e,h,k=>k
 | j::r,ρ,e,h,k=>match dstR ops j with
  | some d=>goD P G cf N ops 0 j ρ e h fun v _=>both (eqV v (getT N d ρ e)) (chksD ops r ρ e h k)
  | none=>false
abbrev ownD (ops:Array Oper) (b:Nat) (x:Od) (ρ:TL) (e:L8) (k:Bool):Bool:=match x.r with
 | 0=>k
 | q+1=>match ops[x.i]? with
  | some o=>match o.op with
   | .load _ a=>match opr P G N ρ e a with
    | some g=>onP g fun id _ _ _=>both (Nat.beq id (Nat.add b q)) k
    | none=>false
   | _=>k
  | none=>k
abbrev runD (ops:Array Oper) (b:Nat) (l:List Od):TL→L8→H→KT→Bool:=List.rec (motive:=fun _=>TL→L8→H→KT→Bool)
 (fun ρ e h K=>K ρ e h)
 (fun x _ ih ρ e h K=>ownD P G N ops b x ρ e <| goD P G cf N ops (Nat.add b x.r) x.i ρ e h fun v h'=>put N (dstR ops x.i) v ρ e fun ρ' e'=>chksD P G cf N ops x.c ρ' e' h' (ih ρ' e' h' K)) l
abbrev clD (ops:Array Oper) (i:Nat):Cl:=match ops[i]? with | some o=>clOf P o.op | none=>.p
abbrev isL (c:Cl):Bool:=match c with | .l=>true | _=>false
abbrev okD (ops:Array Oper) (n:Nat) (x:Od):Bool:=(match clD P ops x.i with | .a=>Nat.ble (Nat.succ x.r) n | .f=>Nat.ble (Nat.succ x.r) (Nat.pow 2 n) | _=>true) && x.c.all fun j=>isL (clD P ops j)
abbrev regR:Code→Option (TL→L8→H→KT→Bool)
 | .region _ ops false=>some (runR P G cf N ops (List.range ops.size))
 | .region i ops true=>match N.o i with
  | some (n,l)=>if l.all (okD P ops n)=true then some fun ρ e h K=>resv n h fun b h'=>runD P G cf N ops b l ρ e h' K else none
  | none=>none
 | _=>none
abbrev exec (c:Code):TL→M:=Code.rec (motive:=fun _=>TL→M)
 (fun _ e h K=>K .n e h)
 (fun i ops d ρ=>match regR P G cf N (.region i ops d) with
  | some f=>fun e h K=>f ρ e h fun _ e' h'=>K .n e' h'
  | none=>fun _ _ _=>false)
 (fun a _ iha ihb ρ=>match regR P G cf N a with
  | some f=>fun e h K=>f ρ e h fun ρ' e' h'=>ihb ρ' e' h' K
  | none=>seqM (iha ρ) (ihb .n))
 (fun c _ _ iha ihb ρ e h K=>match opr P G N ρ e c with
  | some x=>condV x (iha ρ e h K) (ihb ρ e h K)
  | none=>false)
 (fun i _ ih ρ=>blockM i (ih ρ))
 (fun _ ih _=>loopM lf (ih .n))
 (fun _ _ _ _ _ _ _ _ _ _=>false)
 (fun i _ e h K=>K (.x i) e h)
 (fun _ _ _ _ _ _=>false)
 (fun _ _ _ _ _=>false)
 (fun _ _ _ _ _=>false)
 (fun _ e h K=>K .r e h)
 (fun _ _ _ _ _=>false) c
end
section
variable {P:Program} {G:Nat→Bool} {cf:CallF} {lf:Nat} {N:Fr}
theorem exec_region (i:Nat) (ops:Array Oper) (d:Bool) (ρ:TL):exec P G cf lf N (.region i ops d) ρ=match regR P G cf N (.region i ops d) with
  | some f=>fun e h K=>f ρ e h fun _ e' h'=>K .n e' h'
  | none=>fun _ _ _=>false:=rfl
theorem exec_seq (a b:Code) (ρ:TL):exec P G cf lf N (.seq a b) ρ=match regR P G cf N a with
  | some f=>fun e h K=>f ρ e h fun ρ' e' h'=>exec P G cf lf N b ρ' e' h' K
  | none=>seqM (exec P G cf lf N a ρ) (exec P G cf lf N b .n):=rfl
theorem exec_cond (c:Operand) (a b:Code) (ρ:TL):exec P G cf lf N (.cond c a b) ρ=fun e h K=>match opr P G N ρ e c with
  | some x=>condV x (exec P G cf lf N a ρ e h K) (exec P G cf lf N b ρ e h K)
  | none=>false:=rfl
end
end Go.Bvm
set_option linter.unusedVariables false
namespace Go.Bvm
open Go.RowKit (Below)
structure Loc where
 B:Nat
 base:Nat
 sz:Nat
 bsz:Nat
abbrev Phi:=Nat→Nat→Option Loc
mutual
inductive RV (φ:Phi):V→Value→Prop
 | w {n:Nat}:n<18446744073709551616→RV φ (.w n) (.int .i64 ((n:Int)-9223372036854775808))
 | y {n:Nat}:n<256→RV φ (.y n) (.int .u8 (n:Int))
 | t {b:Bool}:RV φ (.t b) (.bool b)
 | s {l n:Nat} {s:ByteArray}:s.size=l→pack s.data.toList=n→RV φ (.s l n) (.string s)
 | p {id off lim ver:Nat} {l:Loc}:φ id ver=some l→lim≤l.sz→RV φ (.p id off lim ver) (.pointer (some ⟨l.B,l.base+off,none⟩))
 | sl {id off len ver esz cap:Nat} {a:Addr} {l:Loc}:φ id ver=some l→off+len*esz≤l.sz→len≤cap→(cap≠0→a=⟨l.B,l.base+off,none⟩)→l.base+off+cap*esz≤l.bsz→
   RV φ (.sl id off len ver esz) (.slice (some a) len cap)
 | int {k:IntKind} {n:Int} {a b:V}:k≠.i64→k≠.u8→RV φ (.x (.int k n) a b) (.int k n)
 | pnil {a b:V}:RV φ (.x .pnil a b) (.pointer none)
 | slnil {a b:V}:RV φ (.x .slnil a b) (.slice none 0 0)
 | fnil {a b:V}:RV φ (.x .fnil a b) .nilFunc
 | inil {a b:V}:RV φ (.x .inil a b) .nilIface
 | mnil {a b:V}:RV φ (.x .mnil a b) (.map none)
 | undef {a b:V}:RV φ (.x .undef a b) (.tuple #[])
 | agg {a b:V} {l:List Value}:RL φ a l→(∀ v,v∈l→v.oneCell'=true)→RV φ (.x .agg a b) (.agg ⟨l⟩)
 | tup {a b:V} {l:List Value}:RL φ a l→RV φ (.x .tup a b) (.tuple ⟨l⟩)
 | iface {t:Nat} {a b:V} {v:Value}:RV φ a v→RV φ (.x (.iface t) a b) (.iface t v)
 | func {f:Nat} {a b:V} {l r:List Value}:RL φ a l→RL φ b r→RV φ (.x (.func f) a b) (.func (.func f) ⟨l⟩ ⟨r⟩)
 | osl {a b:V} {A:Option Addr} {len cap:Nat}:RV φ (.x .osl a b) (.slice A len cap)
 | nn {a b:V} {n:Int}:0≤n→RV φ (.x .nn a b) (.int .i64 n)
 | any {a b:V} {v:Value}:RV φ (.x .any a b) v
 | map {id:Nat} {a b:V} {l:Loc}:φ id 0=some l→RV φ (.x (.map id) a b) (.map (some l.B))
inductive RL (φ:Phi):V→List Value→Prop
 | nil {a b:V}:RL φ (.x .nil a b) []
 | cons {a b:V} {v:Value} {r:List Value}:RV φ a v→RL φ b r→RL φ (.x .cons a b) (v::r)
end
def Phi.le (φ ψ:Phi):Prop:=∀ id v l,φ id v=some l→ψ id v=some l
theorem Phi.le_refl (φ:Phi):φ.le φ:=fun _ _ _ h=>h
theorem Phi.le_trans {φ ψ χ:Phi} (h:φ.le ψ) (k:ψ.le χ):φ.le χ:=fun _ _ _ e=>k _ _ _ (h _ _ _ e)
mutual
theorem RV.mono {φ ψ:Phi} (h:φ.le ψ) {v:V} {c:Value} (r:RV φ v c):RV ψ v c:=by
 cases r with
 | w a=>exact .w a
 | y a=>exact .y a
 | t=>exact .t
 | s a b=>exact .s a b
 | p a b=>exact .p (h _ _ _ a) b
 | sl a b c d e=>exact .sl (h _ _ _ a) b c d e
 | int a b=>exact .int a b
 | pnil=>exact .pnil
 | slnil=>exact .slnil
 | fnil=>exact .fnil
 | inil=>exact .inil
 | mnil=>exact .mnil
 | undef=>exact .undef
 | agg a q=>exact .agg (RL.mono h a) q
 | tup a=>exact .tup (RL.mono h a)
 | iface a=>exact .iface (RV.mono h a)
 | func a b=>exact .func (RL.mono h a) (RL.mono h b)
 | osl=>exact .osl
 | nn a=>exact .nn a
 | any=>exact .any
 | map a=>exact .map (h _ _ _ a)
theorem RL.mono {φ ψ:Phi} (h:φ.le ψ) {v:V} {c:List Value} (r:RL φ v c):RL ψ v c:=by
 cases r with
 | nil=>exact .nil
 | cons a b=>exact .cons (RV.mono h a) (RL.mono h b)
end
@[simp] theorem bs_true {α:Type} (x y:α):bs true x y=x:=rfl
@[simp] theorem bs_false {α:Type} (x y:α):bs false x y=y:=rfl
theorem bs_ite {α:Type} (b:Bool) (x y:α):bs b x y=if b=true then x else y:=by cases b <;> rfl
theorem sel8_n8 {α:Type} (d:Nat) (a:α):sel8 d (n8 a)=a:=by
 unfold sel8 sel8a sel8b sel8c sel8d sel8e sel8f n8
 simp only [bs_ite]
 repeat' split
 all_goals rfl
theorem sel8_upd8 {α:Type} (d e:Nat) (v:α) (x:N8 α) (hd:d<8) (he:e<8):sel8 d (upd8 e v x)=if d=e then v else sel8 d x:=by
 have h1:d=0∨d=1∨d=2∨d=3∨d=4∨d=5∨d=6∨d=7:=by omega
 have h2:e=0∨e=1∨e=2∨e=3∨e=4∨e=5∨e=6∨e=7:=by omega
 rcases h1 with rfl | rfl | rfl | rfl | rfl | rfl | rfl | rfl <;> rcases h2 with rfl | rfl | rfl | rfl | rfl | rfl | rfl | rfl <;> rfl
theorem idx_lt:∀ (l:List Nat) (t i:Nat),idx l t=some i→i<l.length
 | [],t,i,h=>by simp [idx] at h
 | x::r,t,i,h=>by
  simp only [idx] at h
  split at h
  ·simp at h;subst h;simp
  ·split at h
   ·rename_i j hj
    simp at h;subst h
    have:=idx_lt r t j hj
    simp;omega
   ·simp at h
theorem idx_inj:∀ (l:List Nat) (t u i:Nat),idx l t=some i→idx l u=some i→t=u
 | [],t,u,i,h,_=>by simp [idx] at h
 | x::r,t,u,i,h,k=>by
  simp only [idx] at h k
  split at h <;> split at k
  ·omega
  ·rename_i h1 h2
   simp at h;subst h
   split at k <;> simp at k
  ·rename_i h1 h2
   simp at k;subst k
   split at h <;> simp at h
  ·split at h <;> split at k
   ·rename_i j hj _ j' hj'
    simp at h k
    have:j=j':=by omega
    subst this
    exact idx_inj r t u j hj hj'
   ·simp at k
   ·simp at h
   ·simp at h
theorem getL_updL (i j:Nat) (v:V) (e:L8) (hi:i<64) (hj:j<64):getL i (updL j v e)=if i=j then v else getL i e:=by
 unfold getL updL
 rw [sel8_upd8 _ _ _ _ (by omega) (by omega)]
 by_cases h:i=j
 ·subst h
  rw [if_pos rfl,if_pos rfl,sel8_upd8 _ _ _ _ (by omega) (by omega),if_pos rfl]
 ·rw [if_neg h]
  by_cases h1:i / 8=j / 8
  ·rw [if_pos h1,sel8_upd8 _ _ _ _ (by omega) (by omega),if_neg (by omega),h1]
  ·rw [if_neg h1]
theorem getT_upd (N:Fr) (t:Nat) (v:V) (i:Nat) (hN:N.l.length≤64) (hi:idx N.l t=some i) (u:Nat) (e:L8):∀ ρ:TL,u≠t→getT N u ρ (updL i v e)=getT N u ρ e
 | .n,hu=>by
  unfold getT
  cases hj:idx N.l u with
  | none=>rfl
  | some j=>
   have h1:=idx_lt _ _ _ hi;have h2:=idx_lt _ _ _ hj
   simp only
   rw [getL_updL _ _ _ _ (by omega) (by omega),if_neg fun k=>by subst k;exact hu (idx_inj _ _ _ _ hj hi)]
 | .c z y r,hu=>by
  unfold getT
  rw [getT_upd N t v i hN hi u e r hu]
theorem getT_e0 (N:Fr) (t:Nat):getT N t .n e0=V.u∨getT N t .n e0=V.any:=by
 unfold getT e0
 split
 ·left;simp [getL,sel8_n8]
 ·right;rfl
theorem sel8_zero {α:Type} (x:N8 α):x.c0=sel8 0 x:=rfl
theorem hgeta_eq (i:Nat) (t:T6a):hgeta i t=sel8 (i % 8) (sel8 (i / 8 % 8) (sel8 (i / 64 % 8) (sel8 (i / 512 % 8) (sel8 (i / 4096 % 8) (sel8 (i / 32768) t))))):=by
 unfold hgeta
 cases h1:Nat.ble 64 i with
 | true=>
  cases h2:Nat.ble 4096 i with
  | true=>rfl
  | false=>
   have h2:i<4096:=Nat.not_le.1 fun k=>by rw [Nat.ble_eq_true_of_le k] at h2;simp at h2
   rw [bs_true,bs_false,show i / 4096 % 8=0 from by omega,show i / 32768=0 from by omega,sel8_zero,sel8_zero]
   rfl
 | false=>
  have h1:i<64:=Nat.not_le.1 fun k=>by rw [Nat.ble_eq_true_of_le k] at h1;simp at h1
  rw [bs_false,show i / 4096 % 8=0 from by omega,show i / 32768=0 from by omega,show i / 512 % 8=0 from by omega,show i / 64 % 8=0 from by omega,show i / 8 % 8=i / 8 from by omega]
  rfl
theorem hseta_eq (i:Nat) (b:Blk) (t:T6a):hseta i b t=hset6 i b t:=by
 unfold hseta
 cases h1:Nat.ble 64 i with
 | true=>
  cases h2:Nat.ble 4096 i with
  | true=>rfl
  | false=>
   have h2:i<4096:=Nat.not_le.1 fun k=>by rw [Nat.ble_eq_true_of_le k] at h2;simp at h2
   rw [bs_true,bs_false]
   unfold hset6 hsetb
   rw [show Nat.mod (Nat.div i 4096) 8=0 from show i / 4096 % 8=0 from by omega,show Nat.div i 32768=0 from show i / 32768=0 from by omega]
   rfl
 | false=>
  have h1:i<64:=Nat.not_le.1 fun k=>by rw [Nat.ble_eq_true_of_le k] at h1;simp at h1
  rw [bs_false]
  unfold hset6 hsetb hsetc hsetd
  rw [show Nat.mod (Nat.div i 4096) 8=0 from show i / 4096 % 8=0 from by omega,show Nat.div i 32768=0 from show i / 32768=0 from by omega,show Nat.mod (Nat.div i 512) 8=0 from show i / 512 % 8=0 from by omega,show Nat.mod (Nat.div i 64) 8=0 from show i / 64 % 8=0 from by omega]
  rfl
theorem hgeta_hseta (i j:Nat) (b:Blk) (t:T6a) (hi:i<262144) (hj:j<262144):hgeta i (hseta j b t)=if i=j then b else hgeta i t:=by
 rw [hseta_eq,hgeta_eq,hgeta_eq]
 unfold hset6 hsetb hsetc hsetd hsete hsetf
 show sel8 (i % 8) (sel8 (i / 8 % 8) (sel8 (i / 64 % 8) (sel8 (i / 512 % 8) (sel8 (i / 4096 % 8) (sel8 (i / 32768) (upd8 (j / 32768) (upd8 (j / 4096 % 8) (upd8 (j / 512 % 8) (upd8 (j / 64 % 8) (upd8 (j / 8 % 8) (upd8 (j % 8) b (sel8 (j / 8 % 8) (sel8 (j / 64 % 8) (sel8 (j / 512 % 8) (sel8 (j / 4096 % 8) (sel8 (j / 32768) t))))))
  (sel8 (j / 64 % 8) (sel8 (j / 512 % 8) (sel8 (j / 4096 % 8) (sel8 (j / 32768) t))))) (sel8 (j / 512 % 8) (sel8 (j / 4096 % 8) (sel8 (j / 32768) t)))) (sel8 (j / 4096 % 8) (sel8 (j / 32768) t))) (sel8 (j / 32768) t)) t))))))=_
 rw [sel8_upd8 _ _ _ _ (by omega) (by omega)]
 by_cases h1:i / 32768=j / 32768
 ·rw [if_pos h1,sel8_upd8 _ _ _ _ (by omega) (by omega)]
  by_cases h2:i / 4096 % 8=j / 4096 % 8
  ·rw [if_pos h2,sel8_upd8 _ _ _ _ (by omega) (by omega)]
   by_cases h3:i / 512 % 8=j / 512 % 8
   ·rw [if_pos h3,sel8_upd8 _ _ _ _ (by omega) (by omega)]
    by_cases h4:i / 64 % 8=j / 64 % 8
    ·rw [if_pos h4,sel8_upd8 _ _ _ _ (by omega) (by omega)]
     by_cases h5:i / 8 % 8=j / 8 % 8
     ·rw [if_pos h5,sel8_upd8 _ _ _ _ (by omega) (by omega)]
      by_cases h6:i % 8=j % 8
      ·rw [if_pos h6,if_pos (by omega)]
      ·rw [if_neg h6,if_neg (by omega),h1,h2,h3,h4,h5]
     ·rw [if_neg h5,if_neg (by omega),h1,h2,h3,h4]
    ·rw [if_neg h4,if_neg (by omega),h1,h2,h3]
   ·rw [if_neg h3,if_neg (by omega),h1,h2]
  ·rw [if_neg h2,if_neg (by omega),h1]
 ·rw [if_neg h1,if_neg (by omega)]
theorem ble_lt {n i:Nat} (h:i<n):Nat.ble n i=false:=by
 cases e:Nat.ble n i
 ·rfl
 ·exact absurd (Nat.le_of_ble_eq_true e) (Nat.not_le.2 h)
theorem ble_add (n i:Nat):Nat.ble n (i+n)=true:=Nat.ble_eq_true_of_le (Nat.le_add_left n i)
theorem sub_addN (n i:Nat):Nat.sub (i+n) n=i:=Nat.add_sub_cancel (n:=i) (m:=n)
theorem hset_mk (i:Nat) (b:Blk) (a:T6a) (f:Nat→Blk):hset i b ⟨a,f⟩=bs (Nat.ble 262144 i) ⟨a,hsetx (Nat.sub i 262144) b f⟩ ⟨hseta i b a,f⟩:=rfl
theorem hget_lo {i:Nat} (h:i<262144) (t:T6):hget i t=hgeta i t.a:=by
 unfold hget
 rw [ble_lt h,bs_false]
theorem hget_hi (i:Nat) (t:T6):hget (i+262144) t=t.f i:=by
 unfold hget
 rw [ble_add,bs_true,sub_addN]
theorem hset_lo {i:Nat} (h:i<262144) (b:Blk) (t:T6):hset i b t=⟨hseta i b t.a,t.f⟩:=by
 cases t
 rw [hset_mk,ble_lt h,bs_false]
theorem hset_hi (i:Nat) (b:Blk) (t:T6):hset (i+262144) b t=⟨t.a,hsetx i b t.f⟩:=by
 cases t
 rw [hset_mk,ble_add,bs_true,sub_addN]
theorem hget_hset (i j:Nat) (b:Blk) (t:T6) (hi:0≤i) (hj:0≤j):hget i (hset j b t)=if i=j then b else hget i t:=by
 rcases Nat.lt_or_ge j 262144 with h1 | h1
 ·rw [hset_lo h1]
  rcases Nat.lt_or_ge i 262144 with h2 | h2
  ·rw [hget_lo h2,hget_lo h2];exact hgeta_hseta i j b t.a h2 h1
  ·obtain ⟨m,rfl⟩ : ∃ m,i=m+262144:=⟨i-262144,by omega⟩
   rw [hget_hi,hget_hi,if_neg (by omega)]
 ·obtain ⟨n,rfl⟩ : ∃ n,j=n+262144:=⟨j-262144,by omega⟩
  rw [hset_hi]
  rcases Nat.lt_or_ge i 262144 with h2 | h2
  ·rw [hget_lo h2,hget_lo h2,if_neg (by omega)]
  ·obtain ⟨m,rfl⟩ : ∃ m,i=m+262144:=⟨i-262144,by omega⟩
   rw [hget_hi,hget_hi]
   show bs (Nat.beq m n) b (t.f m)=_
   by_cases e:m=n
   ·subst e;rw [if_pos rfl,show Nat.beq m m=true from Nat.beq_refl m];rfl
   ·rw [if_neg (by omega),show Nat.beq m n=false from by cases q:Nat.beq m n;rfl;exact absurd (Nat.eq_of_beq_eq_true q) e];rfl
theorem hget_t6 (i:Nat):hget i t6=.nb:=by
 rcases Nat.lt_or_ge i 262144 with h2 | h2
 ·rw [hget_lo h2,hgeta_eq];unfold t6;simp [sel8_n8]
 ·obtain ⟨m,rfl⟩ : ∃ m,i=m+262144:=⟨i-262144,by omega⟩
  rw [hget_hi];rfl
theorem aget4_eq (i:Nat) (x:A4) (hi:i<4096):aget4 i x=sel8 (i % 8) (sel8 (i / 8 % 8) (sel8 (i / 64 % 8) (sel8 (i / 512) x))):=by
 unfold aget4
 cases h1:Nat.ble 64 i with
 | true=>rfl
 | false=>
  have h1:i<64:=Nat.not_le.1 fun k=>by rw [Nat.ble_eq_true_of_le k] at h1;simp at h1
  rw [bs_false,show i / 512=0 from by omega,show i / 64 % 8=0 from by omega,show i / 8 % 8=i / 8 from by omega]
  rfl
theorem aset4_eq (i:Nat) (v:V) (x:A4) (hi:i<4096):aset4 i v x=upd8 (i / 512) (upd8 (i / 64 % 8) (upd8 (i / 8 % 8) (upd8 (i % 8) v (sel8 (i / 8 % 8) (sel8 (i / 64 % 8) (sel8 (i / 512) x)))) (sel8 (i / 64 % 8) (sel8 (i / 512) x))) (sel8 (i / 512) x)) x:=by
 unfold aset4
 cases h1:Nat.ble 64 i with
 | true=>rfl
 | false=>
  have h1:i<64:=Nat.not_le.1 fun k=>by rw [Nat.ble_eq_true_of_le k] at h1;simp at h1
  rw [bs_false,show i / 512=0 from by omega,show i / 64 % 8=0 from by omega]
  rfl
theorem aget_aset (i j:Nat) (v:V) (a:Arr) (hi:i<acap a) (hj:j<acap a):aget i (aset j v a)=if i=j then v else aget i a:=by
 cases a with
 | a1 x=>
  have hi':i<8:=hi
  have hj':j<8:=hj
  exact sel8_upd8 _ _ _ _ hi' hj'
 | a4 x=>
  have hi':i<4096:=hi
  have hj':j<4096:=hj
  show aget4 i (aset4 j v x)=if i=j then v else aget4 i x
  rw [aget4_eq _ _ hi',aget4_eq _ _ hi',aset4_eq _ _ _ hj']
  rw [sel8_upd8 _ _ _ _ (by omega) (by omega)]
  by_cases h1:i / 512=j / 512
  ·rw [if_pos h1,sel8_upd8 _ _ _ _ (by omega) (by omega)]
   by_cases h2:i / 64 % 8=j / 64 % 8
   ·rw [if_pos h2,sel8_upd8 _ _ _ _ (by omega) (by omega)]
    by_cases h3:i / 8 % 8=j / 8 % 8
    ·rw [if_pos h3,sel8_upd8 _ _ _ _ (by omega) (by omega)]
     by_cases h4:i % 8=j % 8
     ·rw [if_pos h4,if_pos (by omega)]
     ·rw [if_neg h4,if_neg (by omega),h1,h2,h3]
    ·rw [if_neg h3,if_neg (by omega),h1,h2]
   ·rw [if_neg h2,if_neg (by omega),h1]
  ·rw [if_neg h1,if_neg (by omega)]
 | al n g=>
  show bs (Nat.beq i j) v (g i)=if i=j then v else g i
  by_cases e:i=j
  ·subst e;rw [if_pos rfl,show Nat.beq i i=true from Nat.beq_refl i];rfl
  ·rw [if_neg e,show Nat.beq i j=false from by cases q:Nat.beq i j;rfl;exact absurd (Nat.eq_of_beq_eq_true q) e];rfl
@[simp] theorem acap_aset (j:Nat) (v:V) (a:Arr):acap (aset j v a)=acap a:=by cases a <;> rfl
theorem aget_agrow (i:Nat) (a:Arr) (hi:i<acap a):aget i (agrow a)=aget i a:=by
 cases a with
 | a1 x=>
  have hi':i<8:=hi
  have h:i=0∨i=1∨i=2∨i=3∨i=4∨i=5∨i=6∨i=7:=by omega
  rcases h with rfl | rfl | rfl | rfl | rfl | rfl | rfl | rfl <;> rfl
 | a4 x=>rfl
 | al n f=>rfl
theorem acap_agrow (a:Arr):acap (agrow a)=4096:=by cases a <;> rfl
theorem aget_agrowTo (n i:Nat) (a:Arr) (hi:i<acap a):aget i (agrowTo n a)=aget i a:=by
 unfold agrowTo
 cases h:Nat.ble n 4096
 ·rfl
 ·exact aget_agrow i a hi
theorem acap_agrowTo (n:Nat) (a:Arr):n≤acap (agrowTo n a):=by
 unfold agrowTo
 cases h:Nat.ble n 4096
 ·exact Nat.le_refl _
 ·rw [bs_true,acap_agrow];exact Nat.le_of_ble_eq_true h
theorem aget_room (n i:Nat) (a:Arr) (hi:i<acap a):aget i (room n a)=aget i a:=by
 unfold room
 cases h:Nat.ble n (acap a)
 ·exact aget_agrowTo n i a hi
 ·rfl
theorem acap_room (n:Nat) (a:Arr) (hn:n≤17179869184):n≤acap (room n a):=by
 unfold room
 cases h:Nat.ble n (acap a)
 ·exact acap_agrowTo n a
 ·rw [bs_true];exact Nat.le_of_ble_eq_true h
theorem acap_room_ge (n:Nat) (a:Arr):acap a≤acap (room n a):=by
 unfold room
 cases h:Nat.ble n (acap a)
 ·have h1:=acap_agrowTo n a
  have h2:¬ n≤acap a:=fun k=>by rw [Nat.ble_eq_true_of_le k] at h;simp at h
  rw [bs_false];omega
 ·rw [bs_true];exact Nat.le_refl _
theorem acap_fresh (n:Nat) (hn:n≤17179869184):n≤acap (fresh n):=by
 unfold fresh
 cases h:Nat.ble n 8
 ·rw [bs_false]
  cases h2:Nat.ble n 4096
  ·exact Nat.le_refl _
  ·exact Nat.le_of_ble_eq_true h2
 ·rw [bs_true];exact Nat.le_of_ble_eq_true h
def owns (b:Blk):Bool:=match b with | .bk _ _ _ _ _ _ o=>o | .mp _=>true | .it _ _ _=>true | .nb=>false | .pin _ _ _=>false
def verOf (b:Blk):Nat:=match b with | .bk _ _ v _ _ _ _=>v | _=>0
def Own (φ:Phi) (t:T6) (B:Nat):Prop:=∃ id l,0≤id∧owns (hget id t)=true∧φ id (verOf (hget id t))=some l∧l.B=B
inductive ML (φ:Phi):V→List MapEntry→Prop
 | nil {a b:V}:ML φ (.x .nil a b) []
 | cons {k v r:V} {e:MapEntry} {es:List MapEntry}:RV φ k e.key→RV φ v e.val→ML φ r es→ML φ (.x .cons (.x .cons k v) r) (e::es)
theorem ML.mono {φ ψ:Phi} (h:φ.le ψ) {v:V} {c:List MapEntry} (r:ML φ v c):ML ψ v c:=by
 induction r with
 | nil=>exact .nil
 | cons a b _ ih=>exact .cons (a.mono h) (b.mono h) ih
def pinV (a b c:Nat):Value:=.iface a (.agg #[.pointer (some ⟨b,c,none⟩)])
def tens:Array Value:=(Lib.pow10Tab.map fun z=>Value.int .u64 z).toArray
def pinA (a b c:Nat):Array Value:=if a=0 then tens else #[pinV a b c]
def BlkOk (φ:Phi) (w:World) (id:Nat):Blk→Prop
 | .nb=>True
 | .bk c size ver frz elem ex own=>∃ l cs fr,φ id ver=some l∧l.sz=size∧w.heap[l.B]?=some (.cells cs elem fr)∧l.bsz=cs.size∧l.base+size≤cs.size∧size≤acap c∧
   (∀ i,i<size→∃ v,cs[l.base+i]?=some v∧RV φ (aget i c) v∧v.oneCell'=true)∧(∀ v,ver<v→φ id v=none)∧
   (own=true→∀ i,frz≤i→l.base+i<cs.size→¬ (fr.1≤l.base+i∧l.base+i<fr.2))∧(ex=true→l.base=0∧size=cs.size)
 | .mp kv=>∃ l es clock,φ id 0=some l∧l.base=0∧w.heap[l.B]?=some (.map es clock)∧ML φ kv es.toList∧∀ v,0<v→φ id v=none
 | .it n r pos=>∃ l s,φ id 0=some l∧l.base=0∧w.heap[l.B]?=some (.stringIter s pos)∧s.size=n∧pos≤n∧pack (s.data.toList.drop pos)=r∧∀ v,0<v→φ id v=none
 | .pin a b c=>∃ l elem fr,φ id 0=some l∧l.base=0∧w.heap[l.B]?=some (.cells (pinA a b c) elem fr)∧∀ v,0<v→φ id v=none
structure Rel (φ:Phi) (h:H) (w:World):Prop where
 next:0≤h.next
 dom:∀ id v l,φ id v=some l→id<h.next∧l.B<w.heap.size∧l.base+l.sz≤l.bsz
 blk:∀ id,0≤id→BlkOk φ w id (hget id h.tr)
 apart:∀ i j,0≤i→0≤j→i≠j→owns (hget i h.tr)=true→hget j h.tr≠.nb→∀ l m,φ i (verOf (hget i h.tr))=some l→φ j (verOf (hget j h.tr))=some m→l.B≠m.B
def Vis (φ:Phi) (t:T6) (B:Nat):Prop:=∃ id l,0≤id∧hget id t≠.nb∧φ id (verOf (hget id t))=some l∧l.B=B
theorem Own.vis {φ:Phi} {t:T6} {B:Nat} (h:Own φ t B):Vis φ t B:=
 let ⟨id,l,h1,h2,h3,h4⟩:=h;⟨id,l,h1,fun k=>by rw [k] at h2;simp [owns] at h2,h3,h4⟩
structure Ext (φ:Phi) (h:H) (w:World) (φ':Phi) (h':H) (w':World):Prop where
 le:φ.le φ'
 os:w'.os=w.os
 tape:w'.tape=w.tape
 output:w'.output=w.output
 size:w.heap.size≤w'.heap.size
 next:h.next≤h'.next
 own:∀ B,B<w.heap.size→Own φ' h'.tr B→Own φ h.tr B
 vis:∀ B,B<w.heap.size→Vis φ' h'.tr B→Vis φ h.tr B
 frame:∀ B,B<w.heap.size→¬ Own φ h.tr B→w'.heap[B]?=w.heap[B]?
 dead:∀ id,id<h.next→hget id h.tr=.nb→hget id h'.tr=.nb∧∀ v,φ' id v=φ id v
theorem Ext.refl (φ:Phi) (h:H) (w:World):Ext φ h w φ h w:=⟨φ.le_refl,rfl,rfl,rfl,Nat.le_refl _,Nat.le_refl _,fun _ _ h=>h,fun _ _ h=>h,fun _ _ _=>rfl,fun _ _ h=>⟨h,fun _=>rfl⟩⟩
theorem Ext.trans {φ φ' φ'':Phi} {t t' t'':H} {w w' w'':World} (a:Ext φ t w φ' t' w') (b:Ext φ' t' w' φ'' t'' w''):Ext φ t w φ'' t'' w'':=
 ⟨Phi.le_trans a.le b.le,b.os.trans a.os,b.tape.trans a.tape,b.output.trans a.output,Nat.le_trans a.size b.size,Nat.le_trans a.next b.next,
  fun B hB h=>a.own B hB (b.own B (Nat.lt_of_lt_of_le hB a.size) h),
  fun B hB h=>a.vis B hB (b.vis B (Nat.lt_of_lt_of_le hB a.size) h),
  fun B hB h=>(b.frame B (Nat.lt_of_lt_of_le hB a.size) (fun k=>h (a.own B hB k))).trans (a.frame B hB h),
  fun id hi hn=>let ⟨h1,h2⟩:=a.dead id hi hn;let ⟨h3,h4⟩:=b.dead id (Nat.lt_of_lt_of_le hi a.next) h1;⟨h3,fun v=>(h4 v).trans (h2 v)⟩⟩
def GlobOk (P:Program) (G:Nat→Bool) (φ:Phi):Prop:=∀ g q,G g=true→P.globals[g]?=some q→∃ l,φ g 0=some l∧l.B=g∧l.base=0∧sizeT P q.type≤l.sz
theorem GlobOk.mono {P:Program} {G:Nat→Bool} {φ ψ:Phi} (h:φ.le ψ) (k:GlobOk P G φ):GlobOk P G ψ:=
 fun g q a b=>let ⟨l,e,r⟩:=k g q a b;⟨l,h _ _ _ e,r⟩
structure RE (φ:Phi) (N:Fr) (ρ:TL) (e:L8) (a:Act):Prop where
 size:a.tmps.size=N.n
 le:N.l.length≤64
 at_:∀ t,t<N.n→∃ v,a.tmps[t]?=some v∧RV φ (getT N t ρ e) v∧RV φ (getT N t .n e) v
theorem RE.mono {φ ψ:Phi} (h:φ.le ψ) {N:Fr} {ρ:TL} {e:L8} {a:Act} (r:RE φ N ρ e a):RE ψ N ρ e a:=
 ⟨r.size,r.le,fun t ht=>let ⟨v,e,q,p⟩:=r.at_ t ht;⟨v,e,q.mono h,p.mono h⟩⟩
theorem RE.put {φ:Phi} {N:Fr} {ρ:TL} {e:L8} {a:Act} (r:RE φ N ρ e a) {d:Option Tmp} {v:V} {c:Value} {k:TL→L8→Bool} (h:put N d v ρ e k=true) (hv:RV φ v c):∃ ρ' e',k ρ' e'=true∧RE φ N ρ' e' (a.put d c):=by
 cases d with
 | none=>exact ⟨ρ,e,h,r⟩
 | some t=>
  simp only [Bvm.put] at h
  split at h
  rotate_left
  ·simp at h
  rename_i ht
  have base:∀ e',(∀ u,u≠t→getT N u ρ e'=getT N u ρ e∧getT N u .n e'=getT N u .n e)→(RV φ (getT N t .n e') c)→RE φ N (.c t v ρ) e' (a.put (some t) c):=fun e' hne heq=>by
   refine ⟨by simp [Act.put,r.size],r.le,fun u hu=>?_⟩
   by_cases hut:u=t
   ·subst hut
    refine ⟨c,by simp [Act.put,r.size,hu],?_,heq⟩
    show RV φ (if u=u then v else _) c
    rw [if_pos rfl];exact hv
   ·obtain ⟨q,e1,e2,e3⟩:=r.at_ u hu
    obtain ⟨g1,g2⟩:=hne u hut
    refine ⟨q,by simp only [Act.put];rw [Array.getElem?_setIfInBounds,if_neg (fun k=>hut k.symm)];exact e1,?_,by rw [g2];exact e3⟩
    show RV φ (if t=u then v else getT N u ρ e') q
    rw [if_neg (fun k=>hut k.symm),g1];exact e2
  split at h
  ·rename_i i hi
   have hi64:=idx_lt _ _ _ hi
   have hle:=r.le
   rw [putL_eq _ (by omega)] at h
   refine ⟨_,_,h,base _ (fun u hu=>⟨getT_upd N t v i hle hi u e ρ hu,getT_upd N t v i hle hi u e .n hu⟩) ?_⟩
   unfold getT
   rw [hi]
   simp only
   rw [getL_updL _ _ _ _ (by omega) (by omega),if_pos rfl];exact hv
  ·rename_i hi
   refine ⟨_,_,h,base _ (fun u hu=>⟨rfl,rfl⟩) ?_⟩
   unfold getT
   rw [hi];exact .any
theorem RE.drop {φ:Phi} {N:Fr} {ρ:TL} {e:L8} {a:Act} (r:RE φ N ρ e a):RE φ N .n e a:=
 ⟨r.size,r.le,fun t ht=>let ⟨v,e1,_,e3⟩:=r.at_ t ht;⟨v,e1,e3,e3⟩⟩
end Go.Bvm
