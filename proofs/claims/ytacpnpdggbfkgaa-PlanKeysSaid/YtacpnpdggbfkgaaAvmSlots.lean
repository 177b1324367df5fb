/- The abstract machine: the places of a frame by name. Printed by a program of this session's. Conditions: none. -/
import Derived.Test.YtacpnpdggbfkgaaAvmOps
set_option linter.unusedVariables false
namespace Go.Avm
noncomputable section
def gl0 (e : E) : V := e.loc.c0.c0
def sl0 : Dst := fun v e k => E.rec (motive := fun _ => Bool) (fun l w => N8.rec (motive := fun _ => Bool) (fun x0 x1 x2 x3 x4 x5 x6 x7 => N8.rec (motive := fun _ => Bool) (fun y0 y1 y2 y3 y4 y5 y6 y7 => k ⟨⟨⟨v, y1, y2, y3, y4, y5, y6, y7⟩, x1, x2, x3, x4, x5, x6, x7⟩, w⟩) x0) l) e
def gl1 (e : E) : V := e.loc.c0.c1
def sl1 : Dst := fun v e k => E.rec (motive := fun _ => Bool) (fun l w => N8.rec (motive := fun _ => Bool) (fun x0 x1 x2 x3 x4 x5 x6 x7 => N8.rec (motive := fun _ => Bool) (fun y0 y1 y2 y3 y4 y5 y6 y7 => k ⟨⟨⟨y0, v, y2, y3, y4, y5, y6, y7⟩, x1, x2, x3, x4, x5, x6, x7⟩, w⟩) x0) l) e
def gl2 (e : E) : V := e.loc.c0.c2
def sl2 : Dst := fun v e k => E.rec (motive := fun _ => Bool) (fun l w => N8.rec (motive := fun _ => Bool) (fun x0 x1 x2 x3 x4 x5 x6 x7 => N8.rec (motive := fun _ => Bool) (fun y0 y1 y2 y3 y4 y5 y6 y7 => k ⟨⟨⟨y0, y1, v, y3, y4, y5, y6, y7⟩, x1, x2, x3, x4, x5, x6, x7⟩, w⟩) x0) l) e
def gl3 (e : E) : V := e.loc.c0.c3
def sl3 : Dst := fun v e k => E.rec (motive := fun _ => Bool) (fun l w => N8.rec (motive := fun _ => Bool) (fun x0 x1 x2 x3 x4 x5 x6 x7 => N8.rec (motive := fun _ => Bool) (fun y0 y1 y2 y3 y4 y5 y6 y7 => k ⟨⟨⟨y0, y1, y2, v, y4, y5, y6, y7⟩, x1, x2, x3, x4, x5, x6, x7⟩, w⟩) x0) l) e
def gl4 (e : E) : V := e.loc.c0.c4
def sl4 : Dst := fun v e k => E.rec (motive := fun _ => Bool) (fun l w => N8.rec (motive := fun _ => Bool) (fun x0 x1 x2 x3 x4 x5 x6 x7 => N8.rec (motive := fun _ => Bool) (fun y0 y1 y2 y3 y4 y5 y6 y7 => k ⟨⟨⟨y0, y1, y2, y3, v, y5, y6, y7⟩, x1, x2, x3, x4, x5, x6, x7⟩, w⟩) x0) l) e
def gl5 (e : E) : V := e.loc.c0.c5
def sl5 : Dst := fun v e k => E.rec (motive := fun _ => Bool) (fun l w => N8.rec (motive := fun _ => Bool) (fun x0 x1 x2 x3 x4 x5 x6 x7 => N8.rec (motive := fun _ => Bool) (fun y0 y1 y2 y3 y4 y5 y6 y7 => k ⟨⟨⟨y0, y1, y2, y3, y4, v, y6, y7⟩, x1, x2, x3, x4, x5, x6, x7⟩, w⟩) x0) l) e
def gl6 (e : E) : V := e.loc.c0.c6
def sl6 : Dst := fun v e k => E.rec (motive := fun _ => Bool) (fun l w => N8.rec (motive := fun _ => Bool) (fun x0 x1 x2 x3 x4 x5 x6 x7 => N8.rec (motive := fun _ => Bool) (fun y0 y1 y2 y3 y4 y5 y6 y7 => k ⟨⟨⟨y0, y1, y2, y3, y4, y5, v, y7⟩, x1, x2, x3, x4, x5, x6, x7⟩, w⟩) x0) l) e
def gl7 (e : E) : V := e.loc.c0.c7
def sl7 : Dst := fun v e k => E.rec (motive := fun _ => Bool) (fun l w => N8.rec (motive := fun _ => Bool) (fun x0 x1 x2 x3 x4 x5 x6 x7 => N8.rec (motive := fun _ => Bool) (fun y0 y1 y2 y3 y4 y5 y6 y7 => k ⟨⟨⟨y0, y1, y2, y3, y4, y5, y6, v⟩, x1, x2, x3, x4, x5, x6, x7⟩, w⟩) x0) l) e
def gl8 (e : E) : V := e.loc.c1.c0
def sl8 : Dst := fun v e k => E.rec (motive := fun _ => Bool) (fun l w => N8.rec (motive := fun _ => Bool) (fun x0 x1 x2 x3 x4 x5 x6 x7 => N8.rec (motive := fun _ => Bool) (fun y0 y1 y2 y3 y4 y5 y6 y7 => k ⟨⟨x0, ⟨v, y1, y2, y3, y4, y5, y6, y7⟩, x2, x3, x4, x5, x6, x7⟩, w⟩) x1) l) e
def gl9 (e : E) : V := e.loc.c1.c1
def sl9 : Dst := fun v e k => E.rec (motive := fun _ => Bool) (fun l w => N8.rec (motive := fun _ => Bool) (fun x0 x1 x2 x3 x4 x5 x6 x7 => N8.rec (motive := fun _ => Bool) (fun y0 y1 y2 y3 y4 y5 y6 y7 => k ⟨⟨x0, ⟨y0, v, y2, y3, y4, y5, y6, y7⟩, x2, x3, x4, x5, x6, x7⟩, w⟩) x1) l) e
def gl10 (e : E) : V := e.loc.c1.c2
def sl10 : Dst := fun v e k => E.rec (motive := fun _ => Bool) (fun l w => N8.rec (motive := fun _ => Bool) (fun x0 x1 x2 x3 x4 x5 x6 x7 => N8.rec (motive := fun _ => Bool) (fun y0 y1 y2 y3 y4 y5 y6 y7 => k ⟨⟨x0, ⟨y0, y1, v, y3, y4, y5, y6, y7⟩, x2, x3, x4, x5, x6, x7⟩, w⟩) x1) l) e
def gl11 (e : E) : V := e.loc.c1.c3
def sl11 : Dst := fun v e k => E.rec (motive := fun _ => Bool) (fun l w => N8.rec (motive := fun _ => Bool) (fun x0 x1 x2 x3 x4 x5 x6 x7 => N8.rec (motive := fun _ => Bool) (fun y0 y1 y2 y3 y4 y5 y6 y7 => k ⟨⟨x0, ⟨y0, y1, y2, v, y4, y5, y6, y7⟩, x2, x3, x4, x5, x6, x7⟩, w⟩) x1) l) e
def gl12 (e : E) : V := e.loc.c1.c4
def sl12 : Dst := fun v e k => E.rec (motive := fun _ => Bool) (fun l w => N8.rec (motive := fun _ => Bool) (fun x0 x1 x2 x3 x4 x5 x6 x7 => N8.rec (motive := fun _ => Bool) (fun y0 y1 y2 y3 y4 y5 y6 y7 => k ⟨⟨x0, ⟨y0, y1, y2, y3, v, y5, y6, y7⟩, x2, x3, x4, x5, x6, x7⟩, w⟩) x1) l) e
def gl13 (e : E) : V := e.loc.c1.c5
def sl13 : Dst := fun v e k => E.rec (motive := fun _ => Bool) (fun l w => N8.rec (motive := fun _ => Bool) (fun x0 x1 x2 x3 x4 x5 x6 x7 => N8.rec (motive := fun _ => Bool) (fun y0 y1 y2 y3 y4 y5 y6 y7 => k ⟨⟨x0, ⟨y0, y1, y2, y3, y4, v, y6, y7⟩, x2, x3, x4, x5, x6, x7⟩, w⟩) x1) l) e
def gl14 (e : E) : V := e.loc.c1.c6
def sl14 : Dst := fun v e k => E.rec (motive := fun _ => Bool) (fun l w => N8.rec (motive := fun _ => Bool) (fun x0 x1 x2 x3 x4 x5 x6 x7 => N8.rec (motive := fun _ => Bool) (fun y0 y1 y2 y3 y4 y5 y6 y7 => k ⟨⟨x0, ⟨y0, y1, y2, y3, y4, y5, v, y7⟩, x2, x3, x4, x5, x6, x7⟩, w⟩) x1) l) e
def gl15 (e : E) : V := e.loc.c1.c7
def sl15 : Dst := fun v e k => E.rec (motive := fun _ => Bool) (fun l w => N8.rec (motive := fun _ => Bool) (fun x0 x1 x2 x3 x4 x5 x6 x7 => N8.rec (motive := fun _ => Bool) (fun y0 y1 y2 y3 y4 y5 y6 y7 => k ⟨⟨x0, ⟨y0, y1, y2, y3, y4, y5, y6, v⟩, x2, x3, x4, x5, x6, x7⟩, w⟩) x1) l) e
def gl16 (e : E) : V := e.loc.c2.c0
def sl16 : Dst := fun v e k => E.rec (motive := fun _ => Bool) (fun l w => N8.rec (motive := fun _ => Bool) (fun x0 x1 x2 x3 x4 x5 x6 x7 => N8.rec (motive := fun _ => Bool) (fun y0 y1 y2 y3 y4 y5 y6 y7 => k ⟨⟨x0, x1, ⟨v, y1, y2, y3, y4, y5, y6, y7⟩, x3, x4, x5, x6, x7⟩, w⟩) x2) l) e
def gl17 (e : E) : V := e.loc.c2.c1
def sl17 : Dst := fun v e k => E.rec (motive := fun _ => Bool) (fun l w => N8.rec (motive := fun _ => Bool) (fun x0 x1 x2 x3 x4 x5 x6 x7 => N8.rec (motive := fun _ => Bool) (fun y0 y1 y2 y3 y4 y5 y6 y7 => k ⟨⟨x0, x1, ⟨y0, v, y2, y3, y4, y5, y6, y7⟩, x3, x4, x5, x6, x7⟩, w⟩) x2) l) e
def gl18 (e : E) : V := e.loc.c2.c2
def sl18 : Dst := fun v e k => E.rec (motive := fun _ => Bool) (fun l w => N8.rec (motive := fun _ => Bool) (fun x0 x1 x2 x3 x4 x5 x6 x7 => N8.rec (motive := fun _ => Bool) (fun y0 y1 y2 y3 y4 y5 y6 y7 => k ⟨⟨x0, x1, ⟨y0, y1, v, y3, y4, y5, y6, y7⟩, x3, x4, x5, x6, x7⟩, w⟩) x2) l) e
def gl19 (e : E) : V := e.loc.c2.c3
def sl19 : Dst := fun v e k => E.rec (motive := fun _ => Bool) (fun l w => N8.rec (motive := fun _ => Bool) (fun x0 x1 x2 x3 x4 x5 x6 x7 => N8.rec (motive := fun _ => Bool) (fun y0 y1 y2 y3 y4 y5 y6 y7 => k ⟨⟨x0, x1, ⟨y0, y1, y2, v, y4, y5, y6, y7⟩, x3, x4, x5, x6, x7⟩, w⟩) x2) l) e
def gl20 (e : E) : V := e.loc.c2.c4
def sl20 : Dst := fun v e k => E.rec (motive := fun _ => Bool) (fun l w => N8.rec (motive := fun _ => Bool) (fun x0 x1 x2 x3 x4 x5 x6 x7 => N8.rec (motive := fun _ => Bool) (fun y0 y1 y2 y3 y4 y5 y6 y7 => k ⟨⟨x0, x1, ⟨y0, y1, y2, y3, v, y5, y6, y7⟩, x3, x4, x5, x6, x7⟩, w⟩) x2) l) e
def gl21 (e : E) : V := e.loc.c2.c5
def sl21 : Dst := fun v e k => E.rec (motive := fun _ => Bool) (fun l w => N8.rec (motive := fun _ => Bool) (fun x0 x1 x2 x3 x4 x5 x6 x7 => N8.rec (motive := fun _ => Bool) (fun y0 y1 y2 y3 y4 y5 y6 y7 => k ⟨⟨x0, x1, ⟨y0, y1, y2, y3, y4, v, y6, y7⟩, x3, x4, x5, x6, x7⟩, w⟩) x2) l) e
def gl22 (e : E) : V := e.loc.c2.c6
def sl22 : Dst := fun v e k => E.rec (motive := fun _ => Bool) (fun l w => N8.rec (motive := fun _ => Bool) (fun x0 x1 x2 x3 x4 x5 x6 x7 => N8.rec (motive := fun _ => Bool) (fun y0 y1 y2 y3 y4 y5 y6 y7 => k ⟨⟨x0, x1, ⟨y0, y1, y2, y3, y4, y5, v, y7⟩, x3, x4, x5, x6, x7⟩, w⟩) x2) l) e
def gl23 (e : E) : V := e.loc.c2.c7
def sl23 : Dst := fun v e k => E.rec (motive := fun _ => Bool) (fun l w => N8.rec (motive := fun _ => Bool) (fun x0 x1 x2 x3 x4 x5 x6 x7 => N8.rec (motive := fun _ => Bool) (fun y0 y1 y2 y3 y4 y5 y6 y7 => k ⟨⟨x0, x1, ⟨y0, y1, y2, y3, y4, y5, y6, v⟩, x3, x4, x5, x6, x7⟩, w⟩) x2) l) e
def gl24 (e : E) : V := e.loc.c3.c0
def sl24 : Dst := fun v e k => E.rec (motive := fun _ => Bool) (fun l w => N8.rec (motive := fun _ => Bool) (fun x0 x1 x2 x3 x4 x5 x6 x7 => N8.rec (motive := fun _ => Bool) (fun y0 y1 y2 y3 y4 y5 y6 y7 => k ⟨⟨x0, x1, x2, ⟨v, y1, y2, y3, y4, y5, y6, y7⟩, x4, x5, x6, x7⟩, w⟩) x3) l) e
def gl25 (e : E) : V := e.loc.c3.c1
def sl25 : Dst := fun v e k => E.rec (motive := fun _ => Bool) (fun l w => N8.rec (motive := fun _ => Bool) (fun x0 x1 x2 x3 x4 x5 x6 x7 => N8.rec (motive := fun _ => Bool) (fun y0 y1 y2 y3 y4 y5 y6 y7 => k ⟨⟨x0, x1, x2, ⟨y0, v, y2, y3, y4, y5, y6, y7⟩, x4, x5, x6, x7⟩, w⟩) x3) l) e
def gl26 (e : E) : V := e.loc.c3.c2
def sl26 : Dst := fun v e k => E.rec (motive := fun _ => Bool) (fun l w => N8.rec (motive := fun _ => Bool) (fun x0 x1 x2 x3 x4 x5 x6 x7 => N8.rec (motive := fun _ => Bool) (fun y0 y1 y2 y3 y4 y5 y6 y7 => k ⟨⟨x0, x1, x2, ⟨y0, y1, v, y3, y4, y5, y6, y7⟩, x4, x5, x6, x7⟩, w⟩) x3) l) e
def gl27 (e : E) : V := e.loc.c3.c3
def sl27 : Dst := fun v e k => E.rec (motive := fun _ => Bool) (fun l w => N8.rec (motive := fun _ => Bool) (fun x0 x1 x2 x3 x4 x5 x6 x7 => N8.rec (motive := fun _ => Bool) (fun y0 y1 y2 y3 y4 y5 y6 y7 => k ⟨⟨x0, x1, x2, ⟨y0, y1, y2, v, y4, y5, y6, y7⟩, x4, x5, x6, x7⟩, w⟩) x3) l) e
def gl28 (e : E) : V := e.loc.c3.c4
def sl28 : Dst := fun v e k => E.rec (motive := fun _ => Bool) (fun l w => N8.rec (motive := fun _ => Bool) (fun x0 x1 x2 x3 x4 x5 x6 x7 => N8.rec (motive := fun _ => Bool) (fun y0 y1 y2 y3 y4 y5 y6 y7 => k ⟨⟨x0, x1, x2, ⟨y0, y1, y2, y3, v, y5, y6, y7⟩, x4, x5, x6, x7⟩, w⟩) x3) l) e
def gl29 (e : E) : V := e.loc.c3.c5
def sl29 : Dst := fun v e k => E.rec (motive := fun _ => Bool) (fun l w => N8.rec (motive := fun _ => Bool) (fun x0 x1 x2 x3 x4 x5 x6 x7 => N8.rec (motive := fun _ => Bool) (fun y0 y1 y2 y3 y4 y5 y6 y7 => k ⟨⟨x0, x1, x2, ⟨y0, y1, y2, y3, y4, v, y6, y7⟩, x4, x5, x6, x7⟩, w⟩) x3) l) e
def gl30 (e : E) : V := e.loc.c3.c6
def sl30 : Dst := fun v e k => E.rec (motive := fun _ => Bool) (fun l w => N8.rec (motive := fun _ => Bool) (fun x0 x1 x2 x3 x4 x5 x6 x7 => N8.rec (motive := fun _ => Bool) (fun y0 y1 y2 y3 y4 y5 y6 y7 => k ⟨⟨x0, x1, x2, ⟨y0, y1, y2, y3, y4, y5, v, y7⟩, x4, x5, x6, x7⟩, w⟩) x3) l) e
def gl31 (e : E) : V := e.loc.c3.c7
def sl31 : Dst := fun v e k => E.rec (motive := fun _ => Bool) (fun l w => N8.rec (motive := fun _ => Bool) (fun x0 x1 x2 x3 x4 x5 x6 x7 => N8.rec (motive := fun _ => Bool) (fun y0 y1 y2 y3 y4 y5 y6 y7 => k ⟨⟨x0, x1, x2, ⟨y0, y1, y2, y3, y4, y5, y6, v⟩, x4, x5, x6, x7⟩, w⟩) x3) l) e
def gl32 (e : E) : V := e.loc.c4.c0
def sl32 : Dst := fun v e k => E.rec (motive := fun _ => Bool) (fun l w => N8.rec (motive := fun _ => Bool) (fun x0 x1 x2 x3 x4 x5 x6 x7 => N8.rec (motive := fun _ => Bool) (fun y0 y1 y2 y3 y4 y5 y6 y7 => k ⟨⟨x0, x1, x2, x3, ⟨v, y1, y2, y3, y4, y5, y6, y7⟩, x5, x6, x7⟩, w⟩) x4) l) e
def gl33 (e : E) : V := e.loc.c4.c1
def sl33 : Dst := fun v e k => E.rec (motive := fun _ => Bool) (fun l w => N8.rec (motive := fun _ => Bool) (fun x0 x1 x2 x3 x4 x5 x6 x7 => N8.rec (motive := fun _ => Bool) (fun y0 y1 y2 y3 y4 y5 y6 y7 => k ⟨⟨x0, x1, x2, x3, ⟨y0, v, y2, y3, y4, y5, y6, y7⟩, x5, x6, x7⟩, w⟩) x4) l) e
def gl34 (e : E) : V := e.loc.c4.c2
def sl34 : Dst := fun v e k => E.rec (motive := fun _ => Bool) (fun l w => N8.rec (motive := fun _ => Bool) (fun x0 x1 x2 x3 x4 x5 x6 x7 => N8.rec (motive := fun _ => Bool) (fun y0 y1 y2 y3 y4 y5 y6 y7 => k ⟨⟨x0, x1, x2, x3, ⟨y0, y1, v, y3, y4, y5, y6, y7⟩, x5, x6, x7⟩, w⟩) x4) l) e
def gl35 (e : E) : V := e.loc.c4.c3
def sl35 : Dst := fun v e k => E.rec (motive := fun _ => Bool) (fun l w => N8.rec (motive := fun _ => Bool) (fun x0 x1 x2 x3 x4 x5 x6 x7 => N8.rec (motive := fun _ => Bool) (fun y0 y1 y2 y3 y4 y5 y6 y7 => k ⟨⟨x0, x1, x2, x3, ⟨y0, y1, y2, v, y4, y5, y6, y7⟩, x5, x6, x7⟩, w⟩) x4) l) e
def gl36 (e : E) : V := e.loc.c4.c4
def sl36 : Dst := fun v e k => E.rec (motive := fun _ => Bool) (fun l w => N8.rec (motive := fun _ => Bool) (fun x0 x1 x2 x3 x4 x5 x6 x7 => N8.rec (motive := fun _ => Bool) (fun y0 y1 y2 y3 y4 y5 y6 y7 => k ⟨⟨x0, x1, x2, x3, ⟨y0, y1, y2, y3, v, y5, y6, y7⟩, x5, x6, x7⟩, w⟩) x4) l) e
def gl37 (e : E) : V := e.loc.c4.c5
def sl37 : Dst := fun v e k => E.rec (motive := fun _ => Bool) (fun l w => N8.rec (motive := fun _ => Bool) (fun x0 x1 x2 x3 x4 x5 x6 x7 => N8.rec (motive := fun _ => Bool) (fun y0 y1 y2 y3 y4 y5 y6 y7 => k ⟨⟨x0, x1, x2, x3, ⟨y0, y1, y2, y3, y4, v, y6, y7⟩, x5, x6, x7⟩, w⟩) x4) l) e
def gl38 (e : E) : V := e.loc.c4.c6
def sl38 : Dst := fun v e k => E.rec (motive := fun _ => Bool) (fun l w => N8.rec (motive := fun _ => Bool) (fun x0 x1 x2 x3 x4 x5 x6 x7 => N8.rec (motive := fun _ => Bool) (fun y0 y1 y2 y3 y4 y5 y6 y7 => k ⟨⟨x0, x1, x2, x3, ⟨y0, y1, y2, y3, y4, y5, v, y7⟩, x5, x6, x7⟩, w⟩) x4) l) e
def gl39 (e : E) : V := e.loc.c4.c7
def sl39 : Dst := fun v e k => E.rec (motive := fun _ => Bool) (fun l w => N8.rec (motive := fun _ => Bool) (fun x0 x1 x2 x3 x4 x5 x6 x7 => N8.rec (motive := fun _ => Bool) (fun y0 y1 y2 y3 y4 y5 y6 y7 => k ⟨⟨x0, x1, x2, x3, ⟨y0, y1, y2, y3, y4, y5, y6, v⟩, x5, x6, x7⟩, w⟩) x4) l) e
def gl40 (e : E) : V := e.loc.c5.c0
def sl40 : Dst := fun v e k => E.rec (motive := fun _ => Bool) (fun l w => N8.rec (motive := fun _ => Bool) (fun x0 x1 x2 x3 x4 x5 x6 x7 => N8.rec (motive := fun _ => Bool) (fun y0 y1 y2 y3 y4 y5 y6 y7 => k ⟨⟨x0, x1, x2, x3, x4, ⟨v, y1, y2, y3, y4, y5, y6, y7⟩, x6, x7⟩, w⟩) x5) l) e
def gl41 (e : E) : V := e.loc.c5.c1
def sl41 : Dst := fun v e k => E.rec (motive := fun _ => Bool) (fun l w => N8.rec (motive := fun _ => Bool) (fun x0 x1 x2 x3 x4 x5 x6 x7 => N8.rec (motive := fun _ => Bool) (fun y0 y1 y2 y3 y4 y5 y6 y7 => k ⟨⟨x0, x1, x2, x3, x4, ⟨y0, v, y2, y3, y4, y5, y6, y7⟩, x6, x7⟩, w⟩) x5) l) e
def gl42 (e : E) : V := e.loc.c5.c2
def sl42 : Dst := fun v e k => E.rec (motive := fun _ => Bool) (fun l w => N8.rec (motive := fun _ => Bool) (fun x0 x1 x2 x3 x4 x5 x6 x7 => N8.rec (motive := fun _ => Bool) (fun y0 y1 y2 y3 y4 y5 y6 y7 => k ⟨⟨x0, x1, x2, x3, x4, ⟨y0, y1, v, y3, y4, y5, y6, y7⟩, x6, x7⟩, w⟩) x5) l) e
def gl43 (e : E) : V := e.loc.c5.c3
def sl43 : Dst := fun v e k => E.rec (motive := fun _ => Bool) (fun l w => N8.rec (motive := fun _ => Bool) (fun x0 x1 x2 x3 x4 x5 x6 x7 => N8.rec (motive := fun _ => Bool) (fun y0 y1 y2 y3 y4 y5 y6 y7 => k ⟨⟨x0, x1, x2, x3, x4, ⟨y0, y1, y2, v, y4, y5, y6, y7⟩, x6, x7⟩, w⟩) x5) l) e
def gl44 (e : E) : V := e.loc.c5.c4
def sl44 : Dst := fun v e k => E.rec (motive := fun _ => Bool) (fun l w => N8.rec (motive := fun _ => Bool) (fun x0 x1 x2 x3 x4 x5 x6 x7 => N8.rec (motive := fun _ => Bool) (fun y0 y1 y2 y3 y4 y5 y6 y7 => k ⟨⟨x0, x1, x2, x3, x4, ⟨y0, y1, y2, y3, v, y5, y6, y7⟩, x6, x7⟩, w⟩) x5) l) e
def gl45 (e : E) : V := e.loc.c5.c5
def sl45 : Dst := fun v e k => E.rec (motive := fun _ => Bool) (fun l w => N8.rec (motive := fun _ => Bool) (fun x0 x1 x2 x3 x4 x5 x6 x7 => N8.rec (motive := fun _ => Bool) (fun y0 y1 y2 y3 y4 y5 y6 y7 => k ⟨⟨x0, x1, x2, x3, x4, ⟨y0, y1, y2, y3, y4, v, y6, y7⟩, x6, x7⟩, w⟩) x5) l) e
def gl46 (e : E) : V := e.loc.c5.c6
def sl46 : Dst := fun v e k => E.rec (motive := fun _ => Bool) (fun l w => N8.rec (motive := fun _ => Bool) (fun x0 x1 x2 x3 x4 x5 x6 x7 => N8.rec (motive := fun _ => Bool) (fun y0 y1 y2 y3 y4 y5 y6 y7 => k ⟨⟨x0, x1, x2, x3, x4, ⟨y0, y1, y2, y3, y4, y5, v, y7⟩, x6, x7⟩, w⟩) x5) l) e
def gl47 (e : E) : V := e.loc.c5.c7
def sl47 : Dst := fun v e k => E.rec (motive := fun _ => Bool) (fun l w => N8.rec (motive := fun _ => Bool) (fun x0 x1 x2 x3 x4 x5 x6 x7 => N8.rec (motive := fun _ => Bool) (fun y0 y1 y2 y3 y4 y5 y6 y7 => k ⟨⟨x0, x1, x2, x3, x4, ⟨y0, y1, y2, y3, y4, y5, y6, v⟩, x6, x7⟩, w⟩) x5) l) e
def gl48 (e : E) : V := e.loc.c6.c0
def sl48 : Dst := fun v e k => E.rec (motive := fun _ => Bool) (fun l w => N8.rec (motive := fun _ => Bool) (fun x0 x1 x2 x3 x4 x5 x6 x7 => N8.rec (motive := fun _ => Bool) (fun y0 y1 y2 y3 y4 y5 y6 y7 => k ⟨⟨x0, x1, x2, x3, x4, x5, ⟨v, y1, y2, y3, y4, y5, y6, y7⟩, x7⟩, w⟩) x6) l) e
def gl49 (e : E) : V := e.loc.c6.c1
def sl49 : Dst := fun v e k => E.rec (motive := fun _ => Bool) (fun l w => N8.rec (motive := fun _ => Bool) (fun x0 x1 x2 x3 x4 x5 x6 x7 => N8.rec (motive := fun _ => Bool) (fun y0 y1 y2 y3 y4 y5 y6 y7 => k ⟨⟨x0, x1, x2, x3, x4, x5, ⟨y0, v, y2, y3, y4, y5, y6, y7⟩, x7⟩, w⟩) x6) l) e
def gl50 (e : E) : V := e.loc.c6.c2
def sl50 : Dst := fun v e k => E.rec (motive := fun _ => Bool) (fun l w => N8.rec (motive := fun _ => Bool) (fun x0 x1 x2 x3 x4 x5 x6 x7 => N8.rec (motive := fun _ => Bool) (fun y0 y1 y2 y3 y4 y5 y6 y7 => k ⟨⟨x0, x1, x2, x3, x4, x5, ⟨y0, y1, v, y3, y4, y5, y6, y7⟩, x7⟩, w⟩) x6) l) e
def gl51 (e : E) : V := e.loc.c6.c3
def sl51 : Dst := fun v e k => E.rec (motive := fun _ => Bool) (fun l w => N8.rec (motive := fun _ => Bool) (fun x0 x1 x2 x3 x4 x5 x6 x7 => N8.rec (motive := fun _ => Bool) (fun y0 y1 y2 y3 y4 y5 y6 y7 => k ⟨⟨x0, x1, x2, x3, x4, x5, ⟨y0, y1, y2, v, y4, y5, y6, y7⟩, x7⟩, w⟩) x6) l) e
def gl52 (e : E) : V := e.loc.c6.c4
def sl52 : Dst := fun v e k => E.rec (motive := fun _ => Bool) (fun l w => N8.rec (motive := fun _ => Bool) (fun x0 x1 x2 x3 x4 x5 x6 x7 => N8.rec (motive := fun _ => Bool) (fun y0 y1 y2 y3 y4 y5 y6 y7 => k ⟨⟨x0, x1, x2, x3, x4, x5, ⟨y0, y1, y2, y3, v, y5, y6, y7⟩, x7⟩, w⟩) x6) l) e
def gl53 (e : E) : V := e.loc.c6.c5
def sl53 : Dst := fun v e k => E.rec (motive := fun _ => Bool) (fun l w => N8.rec (motive := fun _ => Bool) (fun x0 x1 x2 x3 x4 x5 x6 x7 => N8.rec (motive := fun _ => Bool) (fun y0 y1 y2 y3 y4 y5 y6 y7 => k ⟨⟨x0, x1, x2, x3, x4, x5, ⟨y0, y1, y2, y3, y4, v, y6, y7⟩, x7⟩, w⟩) x6) l) e
def gl54 (e : E) : V := e.loc.c6.c6
def sl54 : Dst := fun v e k => E.rec (motive := fun _ => Bool) (fun l w => N8.rec (motive := fun _ => Bool) (fun x0 x1 x2 x3 x4 x5 x6 x7 => N8.rec (motive := fun _ => Bool) (fun y0 y1 y2 y3 y4 y5 y6 y7 => k ⟨⟨x0, x1, x2, x3, x4, x5, ⟨y0, y1, y2, y3, y4, y5, v, y7⟩, x7⟩, w⟩) x6) l) e
def gl55 (e : E) : V := e.loc.c6.c7
def sl55 : Dst := fun v e k => E.rec (motive := fun _ => Bool) (fun l w => N8.rec (motive := fun _ => Bool) (fun x0 x1 x2 x3 x4 x5 x6 x7 => N8.rec (motive := fun _ => Bool) (fun y0 y1 y2 y3 y4 y5 y6 y7 => k ⟨⟨x0, x1, x2, x3, x4, x5, ⟨y0, y1, y2, y3, y4, y5, y6, v⟩, x7⟩, w⟩) x6) l) e
def gl56 (e : E) : V := e.loc.c7.c0
def sl56 : Dst := fun v e k => E.rec (motive := fun _ => Bool) (fun l w => N8.rec (motive := fun _ => Bool) (fun x0 x1 x2 x3 x4 x5 x6 x7 => N8.rec (motive := fun _ => Bool) (fun y0 y1 y2 y3 y4 y5 y6 y7 => k ⟨⟨x0, x1, x2, x3, x4, x5, x6, ⟨v, y1, y2, y3, y4, y5, y6, y7⟩⟩, w⟩) x7) l) e
def gl57 (e : E) : V := e.loc.c7.c1
def sl57 : Dst := fun v e k => E.rec (motive := fun _ => Bool) (fun l w => N8.rec (motive := fun _ => Bool) (fun x0 x1 x2 x3 x4 x5 x6 x7 => N8.rec (motive := fun _ => Bool) (fun y0 y1 y2 y3 y4 y5 y6 y7 => k ⟨⟨x0, x1, x2, x3, x4, x5, x6, ⟨y0, v, y2, y3, y4, y5, y6, y7⟩⟩, w⟩) x7) l) e
def gl58 (e : E) : V := e.loc.c7.c2
def sl58 : Dst := fun v e k => E.rec (motive := fun _ => Bool) (fun l w => N8.rec (motive := fun _ => Bool) (fun x0 x1 x2 x3 x4 x5 x6 x7 => N8.rec (motive := fun _ => Bool) (fun y0 y1 y2 y3 y4 y5 y6 y7 => k ⟨⟨x0, x1, x2, x3, x4, x5, x6, ⟨y0, y1, v, y3, y4, y5, y6, y7⟩⟩, w⟩) x7) l) e
def gl59 (e : E) : V := e.loc.c7.c3
def sl59 : Dst := fun v e k => E.rec (motive := fun _ => Bool) (fun l w => N8.rec (motive := fun _ => Bool) (fun x0 x1 x2 x3 x4 x5 x6 x7 => N8.rec (motive := fun _ => Bool) (fun y0 y1 y2 y3 y4 y5 y6 y7 => k ⟨⟨x0, x1, x2, x3, x4, x5, x6, ⟨y0, y1, y2, v, y4, y5, y6, y7⟩⟩, w⟩) x7) l) e
def gl60 (e : E) : V := e.loc.c7.c4
def sl60 : Dst := fun v e k => E.rec (motive := fun _ => Bool) (fun l w => N8.rec (motive := fun _ => Bool) (fun x0 x1 x2 x3 x4 x5 x6 x7 => N8.rec (motive := fun _ => Bool) (fun y0 y1 y2 y3 y4 y5 y6 y7 => k ⟨⟨x0, x1, x2, x3, x4, x5, x6, ⟨y0, y1, y2, y3, v, y5, y6, y7⟩⟩, w⟩) x7) l) e
def gl61 (e : E) : V := e.loc.c7.c5
def sl61 : Dst := fun v e k => E.rec (motive := fun _ => Bool) (fun l w => N8.rec (motive := fun _ => Bool) (fun x0 x1 x2 x3 x4 x5 x6 x7 => N8.rec (motive := fun _ => Bool) (fun y0 y1 y2 y3 y4 y5 y6 y7 => k ⟨⟨x0, x1, x2, x3, x4, x5, x6, ⟨y0, y1, y2, y3, y4, v, y6, y7⟩⟩, w⟩) x7) l) e
def gl62 (e : E) : V := e.loc.c7.c6
def sl62 : Dst := fun v e k => E.rec (motive := fun _ => Bool) (fun l w => N8.rec (motive := fun _ => Bool) (fun x0 x1 x2 x3 x4 x5 x6 x7 => N8.rec (motive := fun _ => Bool) (fun y0 y1 y2 y3 y4 y5 y6 y7 => k ⟨⟨x0, x1, x2, x3, x4, x5, x6, ⟨y0, y1, y2, y3, y4, y5, v, y7⟩⟩, w⟩) x7) l) e
def gl63 (e : E) : V := e.loc.c7.c7
def sl63 : Dst := fun v e k => E.rec (motive := fun _ => Bool) (fun l w => N8.rec (motive := fun _ => Bool) (fun x0 x1 x2 x3 x4 x5 x6 x7 => N8.rec (motive := fun _ => Bool) (fun y0 y1 y2 y3 y4 y5 y6 y7 => k ⟨⟨x0, x1, x2, x3, x4, x5, x6, ⟨y0, y1, y2, y3, y4, y5, y6, v⟩⟩, w⟩) x7) l) e
def gt (t : Nat) : E → V := fun e => tget t e.tmp
def st (t : Nat) : Dst := fun v e k => E.rec (motive := fun _ => Bool) (fun l w => k ⟨l, .c t v w⟩) e
def cw (n : Nat) : E → V := fun _ => .w n
def cy (n : Nat) : E → V := fun _ => .y n
def ct (b : Bool) : E → V := fun _ => .t b
def cs (l n : Nat) : E → V := fun _ => .s l n
def ck (v : V) : E → V := fun _ => v
def big : Nat := 100000
end
end Go.Avm
