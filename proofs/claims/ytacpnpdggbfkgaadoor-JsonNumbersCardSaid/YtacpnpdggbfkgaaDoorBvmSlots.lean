/- The abstract machine: the places of a frame by name. Printed by a program of this session's. Conditions: none. -/
import Derived.Test.YtacpnpdggbfkgaaDoorBvmDefs
set_option linter.unusedVariables false
namespace Go.Bvm
noncomputable section
def sl0 (v : V) (e : L8) (k : L8 → Bool) : Bool := N8.rec (motive := fun _ => Bool) (fun x0 x1 x2 x3 x4 x5 x6 x7 => N8.rec (motive := fun _ => Bool) (fun y0 y1 y2 y3 y4 y5 y6 y7 => k ⟨⟨v, y1, y2, y3, y4, y5, y6, y7⟩, x1, x2, x3, x4, x5, x6, x7⟩) x0) e
def sl1 (v : V) (e : L8) (k : L8 → Bool) : Bool := N8.rec (motive := fun _ => Bool) (fun x0 x1 x2 x3 x4 x5 x6 x7 => N8.rec (motive := fun _ => Bool) (fun y0 y1 y2 y3 y4 y5 y6 y7 => k ⟨⟨y0, v, y2, y3, y4, y5, y6, y7⟩, x1, x2, x3, x4, x5, x6, x7⟩) x0) e
def sl2 (v : V) (e : L8) (k : L8 → Bool) : Bool := N8.rec (motive := fun _ => Bool) (fun x0 x1 x2 x3 x4 x5 x6 x7 => N8.rec (motive := fun _ => Bool) (fun y0 y1 y2 y3 y4 y5 y6 y7 => k ⟨⟨y0, y1, v, y3, y4, y5, y6, y7⟩, x1, x2, x3, x4, x5, x6, x7⟩) x0) e
def sl3 (v : V) (e : L8) (k : L8 → Bool) : Bool := N8.rec (motive := fun _ => Bool) (fun x0 x1 x2 x3 x4 x5 x6 x7 => N8.rec (motive := fun _ => Bool) (fun y0 y1 y2 y3 y4 y5 y6 y7 => k ⟨⟨y0, y1, y2, v, y4, y5, y6, y7⟩, x1, x2, x3, x4, x5, x6, x7⟩) x0) e
def sl4 (v : V) (e : L8) (k : L8 → Bool) : Bool := N8.rec (motive := fun _ => Bool) (fun x0 x1 x2 x3 x4 x5 x6 x7 => N8.rec (motive := fun _ => Bool) (fun y0 y1 y2 y3 y4 y5 y6 y7 => k ⟨⟨y0, y1, y2, y3, v, y5, y6, y7⟩, x1, x2, x3, x4, x5, x6, x7⟩) x0) e
def sl5 (v : V) (e : L8) (k : L8 → Bool) : Bool := N8.rec (motive := fun _ => Bool) (fun x0 x1 x2 x3 x4 x5 x6 x7 => N8.rec (motive := fun _ => Bool) (fun y0 y1 y2 y3 y4 y5 y6 y7 => k ⟨⟨y0, y1, y2, y3, y4, v, y6, y7⟩, x1, x2, x3, x4, x5, x6, x7⟩) x0) e
def sl6 (v : V) (e : L8) (k : L8 → Bool) : Bool := N8.rec (motive := fun _ => Bool) (fun x0 x1 x2 x3 x4 x5 x6 x7 => N8.rec (motive := fun _ => Bool) (fun y0 y1 y2 y3 y4 y5 y6 y7 => k ⟨⟨y0, y1, y2, y3, y4, y5, v, y7⟩, x1, x2, x3, x4, x5, x6, x7⟩) x0) e
def sl7 (v : V) (e : L8) (k : L8 → Bool) : Bool := N8.rec (motive := fun _ => Bool) (fun x0 x1 x2 x3 x4 x5 x6 x7 => N8.rec (motive := fun _ => Bool) (fun y0 y1 y2 y3 y4 y5 y6 y7 => k ⟨⟨y0, y1, y2, y3, y4, y5, y6, v⟩, x1, x2, x3, x4, x5, x6, x7⟩) x0) e
def sl8 (v : V) (e : L8) (k : L8 → Bool) : Bool := N8.rec (motive := fun _ => Bool) (fun x0 x1 x2 x3 x4 x5 x6 x7 => N8.rec (motive := fun _ => Bool) (fun y0 y1 y2 y3 y4 y5 y6 y7 => k ⟨x0, ⟨v, y1, y2, y3, y4, y5, y6, y7⟩, x2, x3, x4, x5, x6, x7⟩) x1) e
def sl9 (v : V) (e : L8) (k : L8 → Bool) : Bool := N8.rec (motive := fun _ => Bool) (fun x0 x1 x2 x3 x4 x5 x6 x7 => N8.rec (motive := fun _ => Bool) (fun y0 y1 y2 y3 y4 y5 y6 y7 => k ⟨x0, ⟨y0, v, y2, y3, y4, y5, y6, y7⟩, x2, x3, x4, x5, x6, x7⟩) x1) e
def sl10 (v : V) (e : L8) (k : L8 → Bool) : Bool := N8.rec (motive := fun _ => Bool) (fun x0 x1 x2 x3 x4 x5 x6 x7 => N8.rec (motive := fun _ => Bool) (fun y0 y1 y2 y3 y4 y5 y6 y7 => k ⟨x0, ⟨y0, y1, v, y3, y4, y5, y6, y7⟩, x2, x3, x4, x5, x6, x7⟩) x1) e
def sl11 (v : V) (e : L8) (k : L8 → Bool) : Bool := N8.rec (motive := fun _ => Bool) (fun x0 x1 x2 x3 x4 x5 x6 x7 => N8.rec (motive := fun _ => Bool) (fun y0 y1 y2 y3 y4 y5 y6 y7 => k ⟨x0, ⟨y0, y1, y2, v, y4, y5, y6, y7⟩, x2, x3, x4, x5, x6, x7⟩) x1) e
def sl12 (v : V) (e : L8) (k : L8 → Bool) : Bool := N8.rec (motive := fun _ => Bool) (fun x0 x1 x2 x3 x4 x5 x6 x7 => N8.rec (motive := fun _ => Bool) (fun y0 y1 y2 y3 y4 y5 y6 y7 => k ⟨x0, ⟨y0, y1, y2, y3, v, y5, y6, y7⟩, x2, x3, x4, x5, x6, x7⟩) x1) e
def sl13 (v : V) (e : L8) (k : L8 → Bool) : Bool := N8.rec (motive := fun _ => Bool) (fun x0 x1 x2 x3 x4 x5 x6 x7 => N8.rec (motive := fun _ => Bool) (fun y0 y1 y2 y3 y4 y5 y6 y7 => k ⟨x0, ⟨y0, y1, y2, y3, y4, v, y6, y7⟩, x2, x3, x4, x5, x6, x7⟩) x1) e
def sl14 (v : V) (e : L8) (k : L8 → Bool) : Bool := N8.rec (motive := fun _ => Bool) (fun x0 x1 x2 x3 x4 x5 x6 x7 => N8.rec (motive := fun _ => Bool) (fun y0 y1 y2 y3 y4 y5 y6 y7 => k ⟨x0, ⟨y0, y1, y2, y3, y4, y5, v, y7⟩, x2, x3, x4, x5, x6, x7⟩) x1) e
def sl15 (v : V) (e : L8) (k : L8 → Bool) : Bool := N8.rec (motive := fun _ => Bool) (fun x0 x1 x2 x3 x4 x5 x6 x7 => N8.rec (motive := fun _ => Bool) (fun y0 y1 y2 y3 y4 y5 y6 y7 => k ⟨x0, ⟨y0, y1, y2, y3, y4, y5, y6, v⟩, x2, x3, x4, x5, x6, x7⟩) x1) e
def sl16 (v : V) (e : L8) (k : L8 → Bool) : Bool := N8.rec (motive := fun _ => Bool) (fun x0 x1 x2 x3 x4 x5 x6 x7 => N8.rec (motive := fun _ => Bool) (fun y0 y1 y2 y3 y4 y5 y6 y7 => k ⟨x0, x1, ⟨v, y1, y2, y3, y4, y5, y6, y7⟩, x3, x4, x5, x6, x7⟩) x2) e
def sl17 (v : V) (e : L8) (k : L8 → Bool) : Bool := N8.rec (motive := fun _ => Bool) (fun x0 x1 x2 x3 x4 x5 x6 x7 => N8.rec (motive := fun _ => Bool) (fun y0 y1 y2 y3 y4 y5 y6 y7 => k ⟨x0, x1, ⟨y0, v, y2, y3, y4, y5, y6, y7⟩, x3, x4, x5, x6, x7⟩) x2) e
def sl18 (v : V) (e : L8) (k : L8 → Bool) : Bool := N8.rec (motive := fun _ => Bool) (fun x0 x1 x2 x3 x4 x5 x6 x7 => N8.rec (motive := fun _ => Bool) (fun y0 y1 y2 y3 y4 y5 y6 y7 => k ⟨x0, x1, ⟨y0, y1, v, y3, y4, y5, y6, y7⟩, x3, x4, x5, x6, x7⟩) x2) e
def sl19 (v : V) (e : L8) (k : L8 → Bool) : Bool := N8.rec (motive := fun _ => Bool) (fun x0 x1 x2 x3 x4 x5 x6 x7 => N8.rec (motive := fun _ => Bool) (fun y0 y1 y2 y3 y4 y5 y6 y7 => k ⟨x0, x1, ⟨y0, y1, y2, v, y4, y5, y6, y7⟩, x3, x4, x5, x6, x7⟩) x2) e
def sl20 (v : V) (e : L8) (k : L8 → Bool) : Bool := N8.rec (motive := fun _ => Bool) (fun x0 x1 x2 x3 x4 x5 x6 x7 => N8.rec (motive := fun _ => Bool) (fun y0 y1 y2 y3 y4 y5 y6 y7 => k ⟨x0, x1, ⟨y0, y1, y2, y3, v, y5, y6, y7⟩, x3, x4, x5, x6, x7⟩) x2) e
def sl21 (v : V) (e : L8) (k : L8 → Bool) : Bool := N8.rec (motive := fun _ => Bool) (fun x0 x1 x2 x3 x4 x5 x6 x7 => N8.rec (motive := fun _ => Bool) (fun y0 y1 y2 y3 y4 y5 y6 y7 => k ⟨x0, x1, ⟨y0, y1, y2, y3, y4, v, y6, y7⟩, x3, x4, x5, x6, x7⟩) x2) e
def sl22 (v : V) (e : L8) (k : L8 → Bool) : Bool := N8.rec (motive := fun _ => Bool) (fun x0 x1 x2 x3 x4 x5 x6 x7 => N8.rec (motive := fun _ => Bool) (fun y0 y1 y2 y3 y4 y5 y6 y7 => k ⟨x0, x1, ⟨y0, y1, y2, y3, y4, y5, v, y7⟩, x3, x4, x5, x6, x7⟩) x2) e
def sl23 (v : V) (e : L8) (k : L8 → Bool) : Bool := N8.rec (motive := fun _ => Bool) (fun x0 x1 x2 x3 x4 x5 x6 x7 => N8.rec (motive := fun _ => Bool) (fun y0 y1 y2 y3 y4 y5 y6 y7 => k ⟨x0, x1, ⟨y0, y1, y2, y3, y4, y5, y6, v⟩, x3, x4, x5, x6, x7⟩) x2) e
def sl24 (v : V) (e : L8) (k : L8 → Bool) : Bool := N8.rec (motive := fun _ => Bool) (fun x0 x1 x2 x3 x4 x5 x6 x7 => N8.rec (motive := fun _ => Bool) (fun y0 y1 y2 y3 y4 y5 y6 y7 => k ⟨x0, x1, x2, ⟨v, y1, y2, y3, y4, y5, y6, y7⟩, x4, x5, x6, x7⟩) x3) e
def sl25 (v : V) (e : L8) (k : L8 → Bool) : Bool := N8.rec (motive := fun _ => Bool) (fun x0 x1 x2 x3 x4 x5 x6 x7 => N8.rec (motive := fun _ => Bool) (fun y0 y1 y2 y3 y4 y5 y6 y7 => k ⟨x0, x1, x2, ⟨y0, v, y2, y3, y4, y5, y6, y7⟩, x4, x5, x6, x7⟩) x3) e
def sl26 (v : V) (e : L8) (k : L8 → Bool) : Bool := N8.rec (motive := fun _ => Bool) (fun x0 x1 x2 x3 x4 x5 x6 x7 => N8.rec (motive := fun _ => Bool) (fun y0 y1 y2 y3 y4 y5 y6 y7 => k ⟨x0, x1, x2, ⟨y0, y1, v, y3, y4, y5, y6, y7⟩, x4, x5, x6, x7⟩) x3) e
def sl27 (v : V) (e : L8) (k : L8 → Bool) : Bool := N8.rec (motive := fun _ => Bool) (fun x0 x1 x2 x3 x4 x5 x6 x7 => N8.rec (motive := fun _ => Bool) (fun y0 y1 y2 y3 y4 y5 y6 y7 => k ⟨x0, x1, x2, ⟨y0, y1, y2, v, y4, y5, y6, y7⟩, x4, x5, x6, x7⟩) x3) e
def sl28 (v : V) (e : L8) (k : L8 → Bool) : Bool := N8.rec (motive := fun _ => Bool) (fun x0 x1 x2 x3 x4 x5 x6 x7 => N8.rec (motive := fun _ => Bool) (fun y0 y1 y2 y3 y4 y5 y6 y7 => k ⟨x0, x1, x2, ⟨y0, y1, y2, y3, v, y5, y6, y7⟩, x4, x5, x6, x7⟩) x3) e
def sl29 (v : V) (e : L8) (k : L8 → Bool) : Bool := N8.rec (motive := fun _ => Bool) (fun x0 x1 x2 x3 x4 x5 x6 x7 => N8.rec (motive := fun _ => Bool) (fun y0 y1 y2 y3 y4 y5 y6 y7 => k ⟨x0, x1, x2, ⟨y0, y1, y2, y3, y4, v, y6, y7⟩, x4, x5, x6, x7⟩) x3) e
def sl30 (v : V) (e : L8) (k : L8 → Bool) : Bool := N8.rec (motive := fun _ => Bool) (fun x0 x1 x2 x3 x4 x5 x6 x7 => N8.rec (motive := fun _ => Bool) (fun y0 y1 y2 y3 y4 y5 y6 y7 => k ⟨x0, x1, x2, ⟨y0, y1, y2, y3, y4, y5, v, y7⟩, x4, x5, x6, x7⟩) x3) e
def sl31 (v : V) (e : L8) (k : L8 → Bool) : Bool := N8.rec (motive := fun _ => Bool) (fun x0 x1 x2 x3 x4 x5 x6 x7 => N8.rec (motive := fun _ => Bool) (fun y0 y1 y2 y3 y4 y5 y6 y7 => k ⟨x0, x1, x2, ⟨y0, y1, y2, y3, y4, y5, y6, v⟩, x4, x5, x6, x7⟩) x3) e
def sl32 (v : V) (e : L8) (k : L8 → Bool) : Bool := N8.rec (motive := fun _ => Bool) (fun x0 x1 x2 x3 x4 x5 x6 x7 => N8.rec (motive := fun _ => Bool) (fun y0 y1 y2 y3 y4 y5 y6 y7 => k ⟨x0, x1, x2, x3, ⟨v, y1, y2, y3, y4, y5, y6, y7⟩, x5, x6, x7⟩) x4) e
def sl33 (v : V) (e : L8) (k : L8 → Bool) : Bool := N8.rec (motive := fun _ => Bool) (fun x0 x1 x2 x3 x4 x5 x6 x7 => N8.rec (motive := fun _ => Bool) (fun y0 y1 y2 y3 y4 y5 y6 y7 => k ⟨x0, x1, x2, x3, ⟨y0, v, y2, y3, y4, y5, y6, y7⟩, x5, x6, x7⟩) x4) e
def sl34 (v : V) (e : L8) (k : L8 → Bool) : Bool := N8.rec (motive := fun _ => Bool) (fun x0 x1 x2 x3 x4 x5 x6 x7 => N8.rec (motive := fun _ => Bool) (fun y0 y1 y2 y3 y4 y5 y6 y7 => k ⟨x0, x1, x2, x3, ⟨y0, y1, v, y3, y4, y5, y6, y7⟩, x5, x6, x7⟩) x4) e
def sl35 (v : V) (e : L8) (k : L8 → Bool) : Bool := N8.rec (motive := fun _ => Bool) (fun x0 x1 x2 x3 x4 x5 x6 x7 => N8.rec (motive := fun _ => Bool) (fun y0 y1 y2 y3 y4 y5 y6 y7 => k ⟨x0, x1, x2, x3, ⟨y0, y1, y2, v, y4, y5, y6, y7⟩, x5, x6, x7⟩) x4) e
def sl36 (v : V) (e : L8) (k : L8 → Bool) : Bool := N8.rec (motive := fun _ => Bool) (fun x0 x1 x2 x3 x4 x5 x6 x7 => N8.rec (motive := fun _ => Bool) (fun y0 y1 y2 y3 y4 y5 y6 y7 => k ⟨x0, x1, x2, x3, ⟨y0, y1, y2, y3, v, y5, y6, y7⟩, x5, x6, x7⟩) x4) e
def sl37 (v : V) (e : L8) (k : L8 → Bool) : Bool := N8.rec (motive := fun _ => Bool) (fun x0 x1 x2 x3 x4 x5 x6 x7 => N8.rec (motive := fun _ => Bool) (fun y0 y1 y2 y3 y4 y5 y6 y7 => k ⟨x0, x1, x2, x3, ⟨y0, y1, y2, y3, y4, v, y6, y7⟩, x5, x6, x7⟩) x4) e
def sl38 (v : V) (e : L8) (k : L8 → Bool) : Bool := N8.rec (motive := fun _ => Bool) (fun x0 x1 x2 x3 x4 x5 x6 x7 => N8.rec (motive := fun _ => Bool) (fun y0 y1 y2 y3 y4 y5 y6 y7 => k ⟨x0, x1, x2, x3, ⟨y0, y1, y2, y3, y4, y5, v, y7⟩, x5, x6, x7⟩) x4) e
def sl39 (v : V) (e : L8) (k : L8 → Bool) : Bool := N8.rec (motive := fun _ => Bool) (fun x0 x1 x2 x3 x4 x5 x6 x7 => N8.rec (motive := fun _ => Bool) (fun y0 y1 y2 y3 y4 y5 y6 y7 => k ⟨x0, x1, x2, x3, ⟨y0, y1, y2, y3, y4, y5, y6, v⟩, x5, x6, x7⟩) x4) e
def sl40 (v : V) (e : L8) (k : L8 → Bool) : Bool := N8.rec (motive := fun _ => Bool) (fun x0 x1 x2 x3 x4 x5 x6 x7 => N8.rec (motive := fun _ => Bool) (fun y0 y1 y2 y3 y4 y5 y6 y7 => k ⟨x0, x1, x2, x3, x4, ⟨v, y1, y2, y3, y4, y5, y6, y7⟩, x6, x7⟩) x5) e
def sl41 (v : V) (e : L8) (k : L8 → Bool) : Bool := N8.rec (motive := fun _ => Bool) (fun x0 x1 x2 x3 x4 x5 x6 x7 => N8.rec (motive := fun _ => Bool) (fun y0 y1 y2 y3 y4 y5 y6 y7 => k ⟨x0, x1, x2, x3, x4, ⟨y0, v, y2, y3, y4, y5, y6, y7⟩, x6, x7⟩) x5) e
def sl42 (v : V) (e : L8) (k : L8 → Bool) : Bool := N8.rec (motive := fun _ => Bool) (fun x0 x1 x2 x3 x4 x5 x6 x7 => N8.rec (motive := fun _ => Bool) (fun y0 y1 y2 y3 y4 y5 y6 y7 => k ⟨x0, x1, x2, x3, x4, ⟨y0, y1, v, y3, y4, y5, y6, y7⟩, x6, x7⟩) x5) e
def sl43 (v : V) (e : L8) (k : L8 → Bool) : Bool := N8.rec (motive := fun _ => Bool) (fun x0 x1 x2 x3 x4 x5 x6 x7 => N8.rec (motive := fun _ => Bool) (fun y0 y1 y2 y3 y4 y5 y6 y7 => k ⟨x0, x1, x2, x3, x4, ⟨y0, y1, y2, v, y4, y5, y6, y7⟩, x6, x7⟩) x5) e
def sl44 (v : V) (e : L8) (k : L8 → Bool) : Bool := N8.rec (motive := fun _ => Bool) (fun x0 x1 x2 x3 x4 x5 x6 x7 => N8.rec (motive := fun _ => Bool) (fun y0 y1 y2 y3 y4 y5 y6 y7 => k ⟨x0, x1, x2, x3, x4, ⟨y0, y1, y2, y3, v, y5, y6, y7⟩, x6, x7⟩) x5) e
def sl45 (v : V) (e : L8) (k : L8 → Bool) : Bool := N8.rec (motive := fun _ => Bool) (fun x0 x1 x2 x3 x4 x5 x6 x7 => N8.rec (motive := fun _ => Bool) (fun y0 y1 y2 y3 y4 y5 y6 y7 => k ⟨x0, x1, x2, x3, x4, ⟨y0, y1, y2, y3, y4, v, y6, y7⟩, x6, x7⟩) x5) e
def sl46 (v : V) (e : L8) (k : L8 → Bool) : Bool := N8.rec (motive := fun _ => Bool) (fun x0 x1 x2 x3 x4 x5 x6 x7 => N8.rec (motive := fun _ => Bool) (fun y0 y1 y2 y3 y4 y5 y6 y7 => k ⟨x0, x1, x2, x3, x4, ⟨y0, y1, y2, y3, y4, y5, v, y7⟩, x6, x7⟩) x5) e
def sl47 (v : V) (e : L8) (k : L8 → Bool) : Bool := N8.rec (motive := fun _ => Bool) (fun x0 x1 x2 x3 x4 x5 x6 x7 => N8.rec (motive := fun _ => Bool) (fun y0 y1 y2 y3 y4 y5 y6 y7 => k ⟨x0, x1, x2, x3, x4, ⟨y0, y1, y2, y3, y4, y5, y6, v⟩, x6, x7⟩) x5) e
def sl48 (v : V) (e : L8) (k : L8 → Bool) : Bool := N8.rec (motive := fun _ => Bool) (fun x0 x1 x2 x3 x4 x5 x6 x7 => N8.rec (motive := fun _ => Bool) (fun y0 y1 y2 y3 y4 y5 y6 y7 => k ⟨x0, x1, x2, x3, x4, x5, ⟨v, y1, y2, y3, y4, y5, y6, y7⟩, x7⟩) x6) e
def sl49 (v : V) (e : L8) (k : L8 → Bool) : Bool := N8.rec (motive := fun _ => Bool) (fun x0 x1 x2 x3 x4 x5 x6 x7 => N8.rec (motive := fun _ => Bool) (fun y0 y1 y2 y3 y4 y5 y6 y7 => k ⟨x0, x1, x2, x3, x4, x5, ⟨y0, v, y2, y3, y4, y5, y6, y7⟩, x7⟩) x6) e
def sl50 (v : V) (e : L8) (k : L8 → Bool) : Bool := N8.rec (motive := fun _ => Bool) (fun x0 x1 x2 x3 x4 x5 x6 x7 => N8.rec (motive := fun _ => Bool) (fun y0 y1 y2 y3 y4 y5 y6 y7 => k ⟨x0, x1, x2, x3, x4, x5, ⟨y0, y1, v, y3, y4, y5, y6, y7⟩, x7⟩) x6) e
def sl51 (v : V) (e : L8) (k : L8 → Bool) : Bool := N8.rec (motive := fun _ => Bool) (fun x0 x1 x2 x3 x4 x5 x6 x7 => N8.rec (motive := fun _ => Bool) (fun y0 y1 y2 y3 y4 y5 y6 y7 => k ⟨x0, x1, x2, x3, x4, x5, ⟨y0, y1, y2, v, y4, y5, y6, y7⟩, x7⟩) x6) e
def sl52 (v : V) (e : L8) (k : L8 → Bool) : Bool := N8.rec (motive := fun _ => Bool) (fun x0 x1 x2 x3 x4 x5 x6 x7 => N8.rec (motive := fun _ => Bool) (fun y0 y1 y2 y3 y4 y5 y6 y7 => k ⟨x0, x1, x2, x3, x4, x5, ⟨y0, y1, y2, y3, v, y5, y6, y7⟩, x7⟩) x6) e
def sl53 (v : V) (e : L8) (k : L8 → Bool) : Bool := N8.rec (motive := fun _ => Bool) (fun x0 x1 x2 x3 x4 x5 x6 x7 => N8.rec (motive := fun _ => Bool) (fun y0 y1 y2 y3 y4 y5 y6 y7 => k ⟨x0, x1, x2, x3, x4, x5, ⟨y0, y1, y2, y3, y4, v, y6, y7⟩, x7⟩) x6) e
def sl54 (v : V) (e : L8) (k : L8 → Bool) : Bool := N8.rec (motive := fun _ => Bool) (fun x0 x1 x2 x3 x4 x5 x6 x7 => N8.rec (motive := fun _ => Bool) (fun y0 y1 y2 y3 y4 y5 y6 y7 => k ⟨x0, x1, x2, x3, x4, x5, ⟨y0, y1, y2, y3, y4, y5, v, y7⟩, x7⟩) x6) e
def sl55 (v : V) (e : L8) (k : L8 → Bool) : Bool := N8.rec (motive := fun _ => Bool) (fun x0 x1 x2 x3 x4 x5 x6 x7 => N8.rec (motive := fun _ => Bool) (fun y0 y1 y2 y3 y4 y5 y6 y7 => k ⟨x0, x1, x2, x3, x4, x5, ⟨y0, y1, y2, y3, y4, y5, y6, v⟩, x7⟩) x6) e
def sl56 (v : V) (e : L8) (k : L8 → Bool) : Bool := N8.rec (motive := fun _ => Bool) (fun x0 x1 x2 x3 x4 x5 x6 x7 => N8.rec (motive := fun _ => Bool) (fun y0 y1 y2 y3 y4 y5 y6 y7 => k ⟨x0, x1, x2, x3, x4, x5, x6, ⟨v, y1, y2, y3, y4, y5, y6, y7⟩⟩) x7) e
def sl57 (v : V) (e : L8) (k : L8 → Bool) : Bool := N8.rec (motive := fun _ => Bool) (fun x0 x1 x2 x3 x4 x5 x6 x7 => N8.rec (motive := fun _ => Bool) (fun y0 y1 y2 y3 y4 y5 y6 y7 => k ⟨x0, x1, x2, x3, x4, x5, x6, ⟨y0, v, y2, y3, y4, y5, y6, y7⟩⟩) x7) e
def sl58 (v : V) (e : L8) (k : L8 → Bool) : Bool := N8.rec (motive := fun _ => Bool) (fun x0 x1 x2 x3 x4 x5 x6 x7 => N8.rec (motive := fun _ => Bool) (fun y0 y1 y2 y3 y4 y5 y6 y7 => k ⟨x0, x1, x2, x3, x4, x5, x6, ⟨y0, y1, v, y3, y4, y5, y6, y7⟩⟩) x7) e
def sl59 (v : V) (e : L8) (k : L8 → Bool) : Bool := N8.rec (motive := fun _ => Bool) (fun x0 x1 x2 x3 x4 x5 x6 x7 => N8.rec (motive := fun _ => Bool) (fun y0 y1 y2 y3 y4 y5 y6 y7 => k ⟨x0, x1, x2, x3, x4, x5, x6, ⟨y0, y1, y2, v, y4, y5, y6, y7⟩⟩) x7) e
def sl60 (v : V) (e : L8) (k : L8 → Bool) : Bool := N8.rec (motive := fun _ => Bool) (fun x0 x1 x2 x3 x4 x5 x6 x7 => N8.rec (motive := fun _ => Bool) (fun y0 y1 y2 y3 y4 y5 y6 y7 => k ⟨x0, x1, x2, x3, x4, x5, x6, ⟨y0, y1, y2, y3, v, y5, y6, y7⟩⟩) x7) e
def sl61 (v : V) (e : L8) (k : L8 → Bool) : Bool := N8.rec (motive := fun _ => Bool) (fun x0 x1 x2 x3 x4 x5 x6 x7 => N8.rec (motive := fun _ => Bool) (fun y0 y1 y2 y3 y4 y5 y6 y7 => k ⟨x0, x1, x2, x3, x4, x5, x6, ⟨y0, y1, y2, y3, y4, v, y6, y7⟩⟩) x7) e
def sl62 (v : V) (e : L8) (k : L8 → Bool) : Bool := N8.rec (motive := fun _ => Bool) (fun x0 x1 x2 x3 x4 x5 x6 x7 => N8.rec (motive := fun _ => Bool) (fun y0 y1 y2 y3 y4 y5 y6 y7 => k ⟨x0, x1, x2, x3, x4, x5, x6, ⟨y0, y1, y2, y3, y4, y5, v, y7⟩⟩) x7) e
def sl63 (v : V) (e : L8) (k : L8 → Bool) : Bool := N8.rec (motive := fun _ => Bool) (fun x0 x1 x2 x3 x4 x5 x6 x7 => N8.rec (motive := fun _ => Bool) (fun y0 y1 y2 y3 y4 y5 y6 y7 => k ⟨x0, x1, x2, x3, x4, x5, x6, ⟨y0, y1, y2, y3, y4, y5, y6, v⟩⟩) x7) e
abbrev slots : N8 (N8 (V → L8 → (L8 → Bool) → Bool)) := ⟨⟨sl0, sl1, sl2, sl3, sl4, sl5, sl6, sl7⟩, ⟨sl8, sl9, sl10, sl11, sl12, sl13, sl14, sl15⟩, ⟨sl16, sl17, sl18, sl19, sl20, sl21, sl22, sl23⟩, ⟨sl24, sl25, sl26, sl27, sl28, sl29, sl30, sl31⟩, ⟨sl32, sl33, sl34, sl35, sl36, sl37, sl38, sl39⟩, ⟨sl40, sl41, sl42, sl43, sl44, sl45, sl46, sl47⟩, ⟨sl48, sl49, sl50, sl51, sl52, sl53, sl54, sl55⟩, ⟨sl56, sl57, sl58, sl59, sl60, sl61, sl62, sl63⟩⟩
/-- a value laid into place i -/
abbrev slotL : List (V → L8 → (L8 → Bool) → Bool) := [sl0, sl1, sl2, sl3, sl4, sl5, sl6, sl7, sl8, sl9, sl10, sl11, sl12, sl13, sl14, sl15, sl16, sl17, sl18, sl19, sl20, sl21, sl22, sl23, sl24, sl25, sl26, sl27, sl28, sl29, sl30, sl31, sl32, sl33, sl34, sl35, sl36, sl37, sl38, sl39, sl40, sl41, sl42, sl43, sl44, sl45, sl46, sl47, sl48, sl49, sl50, sl51, sl52, sl53, sl54, sl55, sl56, sl57, sl58, sl59, sl60, sl61, sl62, sl63]
abbrev nthL {α : Type} (d : α) (l : List α) : Nat → α := List.rec (motive := fun _ => Nat → α) (fun _ => d) (fun x _ ih i => Nat.rec (motive := fun _ => α) x (fun j _ => ih j) i) l
abbrev putL (i : Nat) : V → L8 → (L8 → Bool) → Bool := nthL sl0 slotL i
end
theorem sl0_eq (v : V) (e : L8) (k : L8 → Bool) : sl0 v e k = k (updL 0 v e) := rfl
theorem sl1_eq (v : V) (e : L8) (k : L8 → Bool) : sl1 v e k = k (updL 1 v e) := rfl
theorem sl2_eq (v : V) (e : L8) (k : L8 → Bool) : sl2 v e k = k (updL 2 v e) := rfl
theorem sl3_eq (v : V) (e : L8) (k : L8 → Bool) : sl3 v e k = k (updL 3 v e) := rfl
theorem sl4_eq (v : V) (e : L8) (k : L8 → Bool) : sl4 v e k = k (updL 4 v e) := rfl
theorem sl5_eq (v : V) (e : L8) (k : L8 → Bool) : sl5 v e k = k (updL 5 v e) := rfl
theorem sl6_eq (v : V) (e : L8) (k : L8 → Bool) : sl6 v e k = k (updL 6 v e) := rfl
theorem sl7_eq (v : V) (e : L8) (k : L8 → Bool) : sl7 v e k = k (updL 7 v e) := rfl
theorem sl8_eq (v : V) (e : L8) (k : L8 → Bool) : sl8 v e k = k (updL 8 v e) := rfl
theorem sl9_eq (v : V) (e : L8) (k : L8 → Bool) : sl9 v e k = k (updL 9 v e) := rfl
theorem sl10_eq (v : V) (e : L8) (k : L8 → Bool) : sl10 v e k = k (updL 10 v e) := rfl
theorem sl11_eq (v : V) (e : L8) (k : L8 → Bool) : sl11 v e k = k (updL 11 v e) := rfl
theorem sl12_eq (v : V) (e : L8) (k : L8 → Bool) : sl12 v e k = k (updL 12 v e) := rfl
theorem sl13_eq (v : V) (e : L8) (k : L8 → Bool) : sl13 v e k = k (updL 13 v e) := rfl
theorem sl14_eq (v : V) (e : L8) (k : L8 → Bool) : sl14 v e k = k (updL 14 v e) := rfl
theorem sl15_eq (v : V) (e : L8) (k : L8 → Bool) : sl15 v e k = k (updL 15 v e) := rfl
theorem sl16_eq (v : V) (e : L8) (k : L8 → Bool) : sl16 v e k = k (updL 16 v e) := rfl
theorem sl17_eq (v : V) (e : L8) (k : L8 → Bool) : sl17 v e k = k (updL 17 v e) := rfl
theorem sl18_eq (v : V) (e : L8) (k : L8 → Bool) : sl18 v e k = k (updL 18 v e) := rfl
theorem sl19_eq (v : V) (e : L8) (k : L8 → Bool) : sl19 v e k = k (updL 19 v e) := rfl
theorem sl20_eq (v : V) (e : L8) (k : L8 → Bool) : sl20 v e k = k (updL 20 v e) := rfl
theorem sl21_eq (v : V) (e : L8) (k : L8 → Bool) : sl21 v e k = k (updL 21 v e) := rfl
theorem sl22_eq (v : V) (e : L8) (k : L8 → Bool) : sl22 v e k = k (updL 22 v e) := rfl
theorem sl23_eq (v : V) (e : L8) (k : L8 → Bool) : sl23 v e k = k (updL 23 v e) := rfl
theorem sl24_eq (v : V) (e : L8) (k : L8 → Bool) : sl24 v e k = k (updL 24 v e) := rfl
theorem sl25_eq (v : V) (e : L8) (k : L8 → Bool) : sl25 v e k = k (updL 25 v e) := rfl
theorem sl26_eq (v : V) (e : L8) (k : L8 → Bool) : sl26 v e k = k (updL 26 v e) := rfl
theorem sl27_eq (v : V) (e : L8) (k : L8 → Bool) : sl27 v e k = k (updL 27 v e) := rfl
theorem sl28_eq (v : V) (e : L8) (k : L8 → Bool) : sl28 v e k = k (updL 28 v e) := rfl
theorem sl29_eq (v : V) (e : L8) (k : L8 → Bool) : sl29 v e k = k (updL 29 v e) := rfl
theorem sl30_eq (v : V) (e : L8) (k : L8 → Bool) : sl30 v e k = k (updL 30 v e) := rfl
theorem sl31_eq (v : V) (e : L8) (k : L8 → Bool) : sl31 v e k = k (updL 31 v e) := rfl
theorem sl32_eq (v : V) (e : L8) (k : L8 → Bool) : sl32 v e k = k (updL 32 v e) := rfl
theorem sl33_eq (v : V) (e : L8) (k : L8 → Bool) : sl33 v e k = k (updL 33 v e) := rfl
theorem sl34_eq (v : V) (e : L8) (k : L8 → Bool) : sl34 v e k = k (updL 34 v e) := rfl
theorem sl35_eq (v : V) (e : L8) (k : L8 → Bool) : sl35 v e k = k (updL 35 v e) := rfl
theorem sl36_eq (v : V) (e : L8) (k : L8 → Bool) : sl36 v e k = k (updL 36 v e) := rfl
theorem sl37_eq (v : V) (e : L8) (k : L8 → Bool) : sl37 v e k = k (updL 37 v e) := rfl
theorem sl38_eq (v : V) (e : L8) (k : L8 → Bool) : sl38 v e k = k (updL 38 v e) := rfl
theorem sl39_eq (v : V) (e : L8) (k : L8 → Bool) : sl39 v e k = k (updL 39 v e) := rfl
theorem sl40_eq (v : V) (e : L8) (k : L8 → Bool) : sl40 v e k = k (updL 40 v e) := rfl
theorem sl41_eq (v : V) (e : L8) (k : L8 → Bool) : sl41 v e k = k (updL 41 v e) := rfl
theorem sl42_eq (v : V) (e : L8) (k : L8 → Bool) : sl42 v e k = k (updL 42 v e) := rfl
theorem sl43_eq (v : V) (e : L8) (k : L8 → Bool) : sl43 v e k = k (updL 43 v e) := rfl
theorem sl44_eq (v : V) (e : L8) (k : L8 → Bool) : sl44 v e k = k (updL 44 v e) := rfl
theorem sl45_eq (v : V) (e : L8) (k : L8 → Bool) : sl45 v e k = k (updL 45 v e) := rfl
theorem sl46_eq (v : V) (e : L8) (k : L8 → Bool) : sl46 v e k = k (updL 46 v e) := rfl
theorem sl47_eq (v : V) (e : L8) (k : L8 → Bool) : sl47 v e k = k (updL 47 v e) := rfl
theorem sl48_eq (v : V) (e : L8) (k : L8 → Bool) : sl48 v e k = k (updL 48 v e) := rfl
theorem sl49_eq (v : V) (e : L8) (k : L8 → Bool) : sl49 v e k = k (updL 49 v e) := rfl
theorem sl50_eq (v : V) (e : L8) (k : L8 → Bool) : sl50 v e k = k (updL 50 v e) := rfl
theorem sl51_eq (v : V) (e : L8) (k : L8 → Bool) : sl51 v e k = k (updL 51 v e) := rfl
theorem sl52_eq (v : V) (e : L8) (k : L8 → Bool) : sl52 v e k = k (updL 52 v e) := rfl
theorem sl53_eq (v : V) (e : L8) (k : L8 → Bool) : sl53 v e k = k (updL 53 v e) := rfl
theorem sl54_eq (v : V) (e : L8) (k : L8 → Bool) : sl54 v e k = k (updL 54 v e) := rfl
theorem sl55_eq (v : V) (e : L8) (k : L8 → Bool) : sl55 v e k = k (updL 55 v e) := rfl
theorem sl56_eq (v : V) (e : L8) (k : L8 → Bool) : sl56 v e k = k (updL 56 v e) := rfl
theorem sl57_eq (v : V) (e : L8) (k : L8 → Bool) : sl57 v e k = k (updL 57 v e) := rfl
theorem sl58_eq (v : V) (e : L8) (k : L8 → Bool) : sl58 v e k = k (updL 58 v e) := rfl
theorem sl59_eq (v : V) (e : L8) (k : L8 → Bool) : sl59 v e k = k (updL 59 v e) := rfl
theorem sl60_eq (v : V) (e : L8) (k : L8 → Bool) : sl60 v e k = k (updL 60 v e) := rfl
theorem sl61_eq (v : V) (e : L8) (k : L8 → Bool) : sl61 v e k = k (updL 61 v e) := rfl
theorem sl62_eq (v : V) (e : L8) (k : L8 → Bool) : sl62 v e k = k (updL 62 v e) := rfl
theorem sl63_eq (v : V) (e : L8) (k : L8 → Bool) : sl63 v e k = k (updL 63 v e) := rfl
theorem putL_eq : ∀ (i : Nat), i < 64 → ∀ (v : V) (e : L8) (k : L8 → Bool), putL i v e k = k (updL i v e)
  | 0, _, v, e, k => sl0_eq v e k
  | 1, _, v, e, k => sl1_eq v e k
  | 2, _, v, e, k => sl2_eq v e k
  | 3, _, v, e, k => sl3_eq v e k
  | 4, _, v, e, k => sl4_eq v e k
  | 5, _, v, e, k => sl5_eq v e k
  | 6, _, v, e, k => sl6_eq v e k
  | 7, _, v, e, k => sl7_eq v e k
  | 8, _, v, e, k => sl8_eq v e k
  | 9, _, v, e, k => sl9_eq v e k
  | 10, _, v, e, k => sl10_eq v e k
  | 11, _, v, e, k => sl11_eq v e k
  | 12, _, v, e, k => sl12_eq v e k
  | 13, _, v, e, k => sl13_eq v e k
  | 14, _, v, e, k => sl14_eq v e k
  | 15, _, v, e, k => sl15_eq v e k
  | 16, _, v, e, k => sl16_eq v e k
  | 17, _, v, e, k => sl17_eq v e k
  | 18, _, v, e, k => sl18_eq v e k
  | 19, _, v, e, k => sl19_eq v e k
  | 20, _, v, e, k => sl20_eq v e k
  | 21, _, v, e, k => sl21_eq v e k
  | 22, _, v, e, k => sl22_eq v e k
  | 23, _, v, e, k => sl23_eq v e k
  | 24, _, v, e, k => sl24_eq v e k
  | 25, _, v, e, k => sl25_eq v e k
  | 26, _, v, e, k => sl26_eq v e k
  | 27, _, v, e, k => sl27_eq v e k
  | 28, _, v, e, k => sl28_eq v e k
  | 29, _, v, e, k => sl29_eq v e k
  | 30, _, v, e, k => sl30_eq v e k
  | 31, _, v, e, k => sl31_eq v e k
  | 32, _, v, e, k => sl32_eq v e k
  | 33, _, v, e, k => sl33_eq v e k
  | 34, _, v, e, k => sl34_eq v e k
  | 35, _, v, e, k => sl35_eq v e k
  | 36, _, v, e, k => sl36_eq v e k
  | 37, _, v, e, k => sl37_eq v e k
  | 38, _, v, e, k => sl38_eq v e k
  | 39, _, v, e, k => sl39_eq v e k
  | 40, _, v, e, k => sl40_eq v e k
  | 41, _, v, e, k => sl41_eq v e k
  | 42, _, v, e, k => sl42_eq v e k
  | 43, _, v, e, k => sl43_eq v e k
  | 44, _, v, e, k => sl44_eq v e k
  | 45, _, v, e, k => sl45_eq v e k
  | 46, _, v, e, k => sl46_eq v e k
  | 47, _, v, e, k => sl47_eq v e k
  | 48, _, v, e, k => sl48_eq v e k
  | 49, _, v, e, k => sl49_eq v e k
  | 50, _, v, e, k => sl50_eq v e k
  | 51, _, v, e, k => sl51_eq v e k
  | 52, _, v, e, k => sl52_eq v e k
  | 53, _, v, e, k => sl53_eq v e k
  | 54, _, v, e, k => sl54_eq v e k
  | 55, _, v, e, k => sl55_eq v e k
  | 56, _, v, e, k => sl56_eq v e k
  | 57, _, v, e, k => sl57_eq v e k
  | 58, _, v, e, k => sl58_eq v e k
  | 59, _, v, e, k => sl59_eq v e k
  | 60, _, v, e, k => sl60_eq v e k
  | 61, _, v, e, k => sl61_eq v e k
  | 62, _, v, e, k => sl62_eq v e k
  | 63, _, v, e, k => sl63_eq v e k
  | n + 64, h, _, _, _ => by omega
end Go.Bvm
