/- The abstract machine: the model's code read as its code. Conditions: none. -/
import Derived.Test.YtacpnpdggbfkgaaAvmCode
import Derived.Laws.Sem
set_option linter.unusedVariables false
namespace Go.Avm
noncomputable section

/-- the bytes as one number -/
def pack : List UInt8 → Nat
  | [] => 0
  | b :: r => b.toNat + 256 * pack r

mutual
/-- a constant -/
def absV : Value → Option V
  | .bool b => some (.t b)
  | .int .i64 n => if 0 ≤ n + 9223372036854775808 ∧ n < 9223372036854775808 then some (.w (n + 9223372036854775808).toNat) else none
  | .int .u8 n => if 0 ≤ n ∧ n < 256 then some (.y n.toNat) else none
  | .int k n => some (mkI k n)
  | .string s => some (.s s.size (pack s.data.toList))
  | .pointer none => some (.x .pnil V.nil V.nil)
  | .slice none 0 0 => some (.x .slnil V.nil V.nil)
  | .nilFunc => some (.x .fnil V.nil V.nil)
  | .nilIface => some (.x .inil V.nil V.nil)
  | .map none => some (.x .mnil V.nil V.nil)
  | .agg ⟨l⟩ => match absL l with | some q => if l.all Value.oneCell' = true then some (.x .agg q V.nil) else none | none => none
  | _ => none
def absL : List Value → Option V
  | [] => some V.nil
  | v :: r => match absV v, absL r with | some a, some b => some (.x .cons a b) | _, _ => none
end

variable (P : Program) (G : Nat → Bool) (cf : CallF) (lf : Nat) (N : Fr)

def sizeT (t : TypeId) : Nat := match P.info? t with | some i => i.size | none => 0
def oneT (t : TypeId) : Bool := match P.underlying t with | some (.struct _) => false | some (.array _ _) => false | _ => true
def hasT (t : TypeId) : Bool := match P.underlying t with | some _ => true | none => false

def opr : Operand → Option (E → V)
  | .tmp t => if t < N.n then some (getE N t) else none
  | .const v => match absV v with | some a => some (fun _ => a) | none => none
  | .global g => if G g = true then (match P.globals[g]? with | some q => some (fun _ => .p g 0 (sizeT P q.type) 0) | none => none) else none
  | .func f => some (fun _ => .x (.func f) V.nil V.nil)

def dstO (d : Option Tmp) : Dst := match d with
  | none => noD
  | some t => if t < N.n then putK N t else fun _ _ _ => false

def oprs : List Operand → Option L
  | [] => some lN
  | x :: r => match opr P G N x, oprs r with | some a, some b => some (lC a b) | _, _ => none

def un (x : Operand) (f : (E → V) → O) : O := match opr P G N x with | some a => f a | none => noO
def bi (x y : Operand) (f : (E → V) → (E → V) → O) : O := match opr P G N x, opr P G N y with | some a, some b => f a b | _, _ => noO
def bnd (x : Option Operand) (f : B? → O) : O := match x with | none => f bN | some q => match opr P G N q with | some a => f (bS a) | none => noO

/-- equality at a type: numbers, bools, strings; against nil -/
def eqlP (f : Bool → Bool) (x y : V) (k : V → Bool) : Bool := cmpV (fun a b => f (Nat.beq a b)) (fun a b => f (decide (a = b))) (fun l n l' n' k => k (.t (f (seqB l n l' n')))) x y k
def eqT (f : Bool → Bool) (x y : V) (k : V → Bool) : Bool := onT x fun a => onT y fun b => k (.t (f (bs a b (nots b))))
/-- is it a nil? (of pointers, slices, interfaces, functions, maps) -/
def nilV (g : Tag → Bool) (v : V) : Bool := V.rec (motive := fun _ => Bool) (fun _ => false) (fun _ => false) (fun _ => false) (fun _ _ => false) (fun _ _ _ _ => false) (fun _ _ _ _ _ => false) (fun q _ _ _ _ => g q) v
def idB (b : Bool) : Bool := b

def eqOp (f : Bool → Bool) (t : TypeId) (x y : Operand) (d : Dst) : O := match P.underlying t with
  | some (.int _) | some .string => bi P G N x y fun a b => binO (eqlP f) d a b
  | some .bool => bi P G N x y fun a b => binO (eqT f) d a b
  | _ => noO

def binOp (op : BinOp) (t : TypeId) (x y : Operand) (d : Dst) : O := match op with
  | .add => bi P G N x y fun a b => binO plusV d a b
  | .sub => bi P G N x y fun a b => binO subV d a b
  | .mul => bi P G N x y fun a b => binO mulV d a b
  | .quo => bi P G N x y fun a b => binO quoV d a b
  | .rem => bi P G N x y fun a b => binO remV d a b
  | .lss => bi P G N x y fun a b => binO lssV d a b
  | .leq => bi P G N x y fun a b => binO leqV d a b
  | .gtr => bi P G N x y fun a b => binO gtrV d a b
  | .geq => bi P G N x y fun a b => binO geqV d a b
  | .eql => eqOp P G N idB t x y d
  | .neq => eqOp P G N nots t x y d
  | _ => noO

def convOp (src dst : TypeId) (x : Operand) (d : Dst) : O := match P.underlying src, P.underlying dst with
  | some (.int _), some (.int k) => if k = .i64 then un P G N x (unO toW d) else if k = .u8 then un P G N x (unO toY d) else un P G N x (unO (toI k) d)
  | some .string, some .string => un P G N x (unO (fun v k => onS v fun l n => k (.s l n)) d)
  | some .string, some (.slice e) => match P.underlying e with
    | some (.int .u8) => un P G N x (s2bO d e)
    | _ => noO
  | some (.slice e), some .string => match P.underlying e with
    | some (.int .u8) => un P G N x (b2sO d)
    | _ => noO
  | _, _ => noO

/-- parts, each where it belongs -/
def parts (place : Nat → Option (Nat × TypeId)) : List (Nat × Operand) → Option Parts
  | [] => some pN
  | (i, x) :: r => match place i, opr P G N x, parts place r with
    | some (off, t), some g, some q => if hasT P t then some (pC off (oneT P t) (sizeT P t) g q) else none
    | _, _, _ => none
def zcells (z : Value) : Option V := if z.cells.toList.all Value.oneCell' = true then absL z.cells.toList else none
def zslice (z : Value) (n : Nat) : Option V := if z.cells.toList.all Value.oneCell' = true then absL ((List.range n).map fun i => z.cells[i % z.cells.size]!) else none

def builtinOp (b : Builtin) (ts : Array TypeId) (xs : List Operand) (d : Dst) : O := match b, xs, ts[0]? with
  | .len, [x], some t => match P.underlying t with
    | some .string => un P G N x (unO lenS d)
    | some (.slice _) => un P G N x (unO lenL d)
    | _ => noO
  | .append, [x, y], some t => match P.underlying t, ts[1]? with
    | some (.slice e), some u => match P.underlying u, P.info? e with
      | some (.int _), _ => noO
      | some .string, some i => if i.bytes ≤ 4096 then (match i.zero with | some z => if z.cells.size = i.size then bi P G N x y (appO d i.size e) else noO | none => noO) else noO
      | some (.slice _), some i => if i.bytes ≤ 4096 then (match i.zero with | some z => if z.cells.size = i.size then bi P G N x y (appO d i.size e) else noO | none => noO) else noO
      | _, _ => noO
    | _, _ => noO
  | .max, [x, y], _ => bi P G N x y fun a b => binO maxV d a b
  | .min, [x, y], _ => bi P G N x y fun a b => binO minV d a b
  | _, _, _ => noO

def vop (o : Oper) : O :=
  let d := dstO N o.dst
  match o.op with
  | .move x | .assign x => un P G N x (movO d)
  | .pick c a b => match opr P G N c with | some q => bi P G N a b (pickO d q) | none => noO
  | .box elem x => if hasT P elem then un P G N x (newO d (oneT P elem) (sizeT P elem) elem) else noO
  | .alloc elem => if hasT P elem then match P.info? elem with
    | some i => match i.zero with
      | some z => match absV z with
        | some a => newO d (oneT P elem) (sizeT P elem) elem (fun _ => a)
        | none => noO
      | none => noO
    | none => noO else noO
  | .load t a => if hasT P t then (if oneT P t = true then un P G N a (ld1O d) else un P G N a (ldaO d (sizeT P t))) else noO
  | .store t a x => if hasT P t then (match o.dst with | none => bi P G N a x (stO (oneT P t) (sizeT P t)) | some _ => noO) else noO
  | .nilCheck x => un P G N x (unO nilckV d)
  | .binOp op t x y _ => binOp P G N op t x y d
  | .unOp op _ x => match op with
    | .not => un P G N x (unO notV d)
    | .neg => un P G N x (unO negV d)
    | _ => noO
  | .convert s t x => convOp P G N s t x d
  | .slice t x lo hi none => match P.underlying t with
    | some (.array n e) => if hasT P e then bnd P G N lo fun l => bnd P G N hi fun u => un P G N x fun a => sarrO d (sizeT P e) n a l u else noO
    | some .string => bnd P G N lo fun l => bnd P G N hi fun u => un P G N x fun a => sstrO d a l u
    | some (.slice e) => if hasT P e then bnd P G N lo fun l => bnd P G N hi fun u => un P G N x fun a => ssliO d (sizeT P e) a l u else noO
    | _ => noO
  | .fieldAddr s x f => match P.underlying s with
    | some (.struct fs) => match fs[f]? with
      | some q => if sizeT P q.type = 0 then noO else un P G N x (fadO d q.offset)
      | none => noO
    | _ => noO
  | .indexAddr t x i => match P.underlying t with
    | some (.slice e) => if hasT P e then bi P G N x i (binO (iadV (sizeT P e)) d) else noO
    | some (.array n e) => if hasT P e then bi P G N x i (binO (iaaV (sizeT P e) n) d) else noO
    | _ => noO
  | .index t x i => match P.underlying t with
    | some .string => bi P G N x i (binO sidxV d)
    | _ => noO
  | .field t x f => match P.underlying t with
    | some (.struct fs) => match fs[f]? with
      | some q => if hasT P q.type then un P G N x (unO (fieldV (oneT P q.type) q.offset (sizeT P q.type)) d) else noO
      | none => noO
    | _ => noO
  | .build t ps => match P.underlying t, P.info? t with
    | some (.struct fs), some i => match i.zero with
      | some z => if fs.toList.all (fun f => hasT P f.type) = true then (match zcells z, parts P G N (fun j => (fs[j]?).map fun f => (f.offset, f.type)) ps.toList with
        | some v, some q => buildO d v q
        | _, _ => noO) else noO
      | none => noO
    | _, _ => noO
  | .buildSlice t len ps => match P.underlying t with
    | some (.slice e) => match P.info? e with
      | some i => match i.zero with
        | some z => if hasT P e = true ∧ len * i.size ≤ 4096 ∧ 1 ≤ i.size ∧ z.cells.size = i.size then (match zslice z (len * i.size), parts P G N (fun j => some (j * i.size, e)) ps.toList with
          | some v, some q => bslO d len i.size e v q
          | _, _ => noO) else noO
        | none => noO
      | none => noO
    | _ => noO
  | .makeFunc (.func f) first captured => match oprs P G N first.toList, oprs P G N captured.toList with
    | some a, some b => mkfO d f a b
    | _, _ => noO
  | .makeInterface t x => match P.underlying t with
    | some (.interface _) => noO
    | some _ => un P G N x (mkiO d t)
    | none => noO
  | .extract x i => un P G N x fun a => extO d a i
  | .call c => match c.callee with
    | .value (.func f) => match oprs P G N c.args.toList with | some l => callO cf d f l | none => noO
    | .value x => match oprs P G N c.args.toList with | some l => un P G N x fun a => callvO cf d a l | none => noO
    | .builtin b => builtinOp P G N b c.argTypes c.args.toList d
    | .invoke .. => noO
  | _ => noO

def goO (ops : Array Oper) (i : Nat) : O := match ops[i]? with
  | none => noO
  | some o => match o.guard with
    | none => vop P G cf N o
    | some (j, b) => match ops[j]? with
      | some q => match q.dst with
        | some g => if g < N.n then guardO (getE N g) b (dstO N o.dst) (vop P G cf N o) else noO
        | none => noO
      | none => noO

def opsO (ops : Array Oper) : List Nat → O
  | [] => nilO
  | [i] => goO P G cf N ops i
  | i :: r => seqO (goO P G cf N ops i) (opsO ops r)

/-- a region as it stands, in the order of the text -/
def plainR : Code → Option O
  | .region _ ops false => some (opsO P G cf N ops (List.range ops.size))
  | _ => none
def seqX (o : Option O) (m n : M) : M := match o with | some q => seqR q n | none => seqM m n

def exec : Code → M
  | .skip => skipM
  | .region _ ops false => regM (opsO P G cf N ops (List.range ops.size))
  | .seq a b => seqX (plainR P G cf N a) (exec a) (exec b)
  | .cond c a b => match opr P G N c with | some q => condM q (exec a) (exec b) | none => noM
  | .block i a => blockM i (exec a)
  | .loop a => loopM lf (exec a)
  | .exit i => exitM i
  | .ret => retM
  | _ => noM

end
end Go.Avm
