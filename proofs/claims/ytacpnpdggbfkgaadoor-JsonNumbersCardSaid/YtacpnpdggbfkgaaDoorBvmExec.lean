/- The abstract machine: the model's code read as its code. Conditions: none. -/
import Derived.Test.YtacpnpdggbfkgaaDoorBvmCode
import Derived.Test.YtacpnpdggbfkgaaDoorBvmSlots
import Derived.Laws.Sem
set_option linter.unusedVariables false
namespace Go.Bvm
noncomputable section

/-- the bytes as one number -/
def pack : List UInt8 → Nat
  | [] => 0
  | b :: r => b.toNat + 256 * pack r

mutual
/-- a constant -/
def absV : Value → Option V
  | .bool b => some (.t b)
  | .int .i64 n => if 0 ≤ n + 9223372036854775808 ∧ n < 9223372036854775808 then some (.w (n + 9223372036854775808).toNat) else none
  | .int .u8 n => if 0 ≤ n ∧ n < 256 then some (.y n.toNat) else none
  | .int k n => some (mkI k n)
  | .string s => some (.s s.size (pack s.data.toList))
  | .pointer none => some (.x .pnil V.nil V.nil)
  | .slice none 0 0 => some (.x .slnil V.nil V.nil)
  | .nilFunc => some (.x .fnil V.nil V.nil)
  | .nilIface => some (.x .inil V.nil V.nil)
  | .map none => some (.x .mnil V.nil V.nil)
  | .agg ⟨l⟩ => match absL l with | some q => if l.all Value.oneCell' = true then some (.x .agg q V.nil) else none | none => none
  | _ => none
def absL : List Value → Option V
  | [] => some V.nil
  | v :: r => match absV v, absL r with | some a, some b => some (.x .cons a b) | _, _ => none
end

variable (P : Program) (G : Nat → Bool) (cf : CallF) (lf : Nat) (N : Fr)

abbrev sizeT (t : TypeId) : Nat := match P.info? t with | some i => i.size | none => 0
abbrev oneT (t : TypeId) : Bool := match P.underlying t with | some (.struct _) => false | some (.array _ _) => false | _ => true
abbrev hasT (t : TypeId) : Bool := match P.underlying t with | some _ => true | none => false

abbrev opr (ρ : TL) (e : L8) : Operand → Option V
  | .tmp t => if t < N.n then some (getT N t ρ e) else none
  | .const v => absV v
  | .global g => if G g = true then (match P.globals[g]? with | some q => some (.p g 0 (sizeT P q.type) 0) | none => none) else none
  | .func f => some (.x (.func f) V.nil V.nil)

variable (q : Operand → Option V)

abbrev oprs : List Operand → Option V
  | [] => some V.nil
  | x :: r => match q x, oprs r with | some a, some b => some (.x .cons a b) | _, _ => none

abbrev un (x : Operand) (f : V → Bool) : Bool := match q x with | some a => f a | none => false
abbrev bi (x y : Operand) (f : V → V → Bool) : Bool := match q x, q y with | some a, some b => f a b | _, _ => false
/-- a bound: named, and then an operand's, or not -/
abbrev bdo (x : Option Operand) (f : Option V → Bool) : Bool := match x with | none => f none | some y => match q y with | some a => f (some a) | none => false

/-- equality at a type: numbers, bools, strings -/
def eqlP (f : Bool → Bool) (x y : V) (k : V → Bool) : Bool := cmpV (fun a b => f (Nat.beq a b)) (fun a b => f (decide (a = b))) (fun l n l' n' k => k (.t (f (seqB l n l' n')))) x y k
def eqT (f : Bool → Bool) (x y : V) (k : V → Bool) : Bool := onT x fun a => onT y fun b => k (.t (f (bs a b (nots b))))
def idB (b : Bool) : Bool := b

abbrev F2 := V → V → (V → Bool) → Bool
abbrev no2 : F2 := fun _ _ _ => false
/-- by kind of number, or a string -/
abbrev byK (t : TypeId) (w y z s : F2) : F2 := match P.underlying t with
  | some (.int .i64) => w
  | some (.int .u8) => y
  | some (.int _) => z
  | some .string => s
  | _ => no2
abbrev eqF (f : Bool → Bool) (t : TypeId) : F2 := match P.underlying t with
  | some .bool => eqT f
  | some (.pointer e) => if hasT P e = true then eqPt f else no2
  | some (.slice _) => eqN nilS f
  | some (.interface _) => eqN nilI f
  | some (.map _ _) => eqN nilM f
  | some (.func ..) => eqN nilF f
  | _ => no2
abbrev binF (op : BinOp) (t : TypeId) : F2 := match op with
  | .add => byK P t addW addY addV catV
  | .sub => byK P t subW subY subV no2
  | .mul => byK P t mulV mulV mulV no2
  | .quo => byK P t quoV quoV quoV no2
  | .rem => byK P t remV remV remV no2
  | .lss => byK P t lssW lssY lssV lssV
  | .leq => byK P t leqW leqY leqV leqV
  | .gtr => byK P t gtrW gtrY gtrV gtrV
  | .geq => byK P t geqV geqY geqV geqV
  | .eql => match P.underlying t with
    | some (.int .i64) => eqlW
    | some (.int .u8) => eqlY
    | some (.int _) => eqlP idB
    | some .string => eqlS
    | _ => eqF P idB t
  | .neq => match P.underlying t with
    | some (.int .i64) => neqW
    | some (.int .u8) => neqY
    | some (.int _) => eqlP nots
    | some .string => neqS
    | _ => eqF P nots t
  | .shr => shrV
  | _ => no2

def strV (x : V) (k : V → Bool) : Bool := onS x fun l n => k (.s l n)
abbrev F1 := V → (V → Bool) → Bool
abbrev no1 : F1 := fun _ _ => false
abbrev convF (src dst : TypeId) : F1 := match P.underlying src, P.underlying dst with
  | some (.int _), some (.int k) => if k = .i64 then toW else if k = .u8 then toY else toI k
  | some .string, some .string => strV
  | _, _ => no1

/-- parts, each where it belongs -/
abbrev parts (place : Nat → Option (Nat × TypeId)) : List (Nat × Operand) → V → (V → Bool) → Bool
  | [], l, k => k l
  | (i, x) :: r, l, k => match place i, q x with
    | some (off, t), some g => if hasT P t then part off (oneT P t) (sizeT P t) g l fun l' => parts place r l' k else false
    | _, _ => false
abbrev zcells (z : Value) : Option V := if z.cells.toList.all Value.oneCell' = true then absL z.cells.toList else none
abbrev zslice (z : Value) (n : Nat) : Option V := if z.cells.toList.all Value.oneCell' = true then absL ((List.range n).map fun i => z.cells[i % z.cells.size]!) else none

/-- two interfaces: one of them the literal nil -/
abbrev isNilC (x : Operand) : Bool := match x with | .const .nilIface => true | _ => false
abbrev okEq (op : BinOp) (t : TypeId) (x y : Operand) : Bool := match op, P.underlying t with
  | .eql, some (.interface _) => isNilC x || isNilC y
  | .neq, some (.interface _) => isNilC x || isNilC y
  | _, _ => true
/-- a struct of numbers (0), strings (1) and bools (2), a cell each -/
abbrev kindsL : List Field → Nat → Option (List Nat)
  | [], _ => some []
  | f :: r, i => if f.offset = i ∧ f.name ≠ "_" then (match P.underlying f.type, kindsL r (i + 1) with
    | some (.int _), some l => some (0 :: l)
    | some .string, some l => some (1 :: l)
    | some .bool, some l => some (2 :: l)
    | _, _ => none) else none
abbrev flatK (t : TypeId) : Option (List Nat) := match P.underlying t with
  | some (.struct fs) => if P.stoodInHeld t = false ∧ P.eqGuardType P.depth t = false then kindsL P fs.toList 0 else none
  | _ => none
/-- what leaves memory alone, and looks at none of it -/
abbrev pop (o : Op) (k : V → Bool) : Bool := match o with
  | .move x | .assign x => un q x k
  | .pick c a b => un q c fun c => bi q a b fun a b => pickV c a b k
  | .nilCheck x => un q x fun a => nilckV a k
  | .binOp op t x y _ => match flatK P t with
    | some ks => (match op with | .eql => bi q x y fun a b => eqAg ks idB a b k | .neq => bi q x y fun a b => eqAg ks nots a b k | _ => false)
    | none => if okEq P op t x y = true then bi q x y fun a b => binF P op t a b k else false
  | .unOp .not _ x => un q x fun a => notV a k
  | .unOp .neg _ x => un q x fun a => negV a k
  | .convert s t x => un q x fun a => convF P s t a k
  | .slice t x lo hi none => match P.underlying t with
    | some (.array n e) => if hasT P e then bdo q lo fun l => bdo q hi fun u => un q x fun a => sarr (sizeT P e) n l u a k else false
    | some .string => bdo q lo fun l => bdo q hi fun u => un q x fun a => sstr l u a k
    | some (.slice e) => if hasT P e then bdo q lo fun l => bdo q hi fun u => un q x fun a => ssli (sizeT P e) l u a k else false
    | _ => false
  | .fieldAddr s x f => match P.underlying s with
    | some (.struct fs) => match fs[f]? with
      | some r => if sizeT P r.type = 0 then false else un q x fun a => fadV r.offset a k
      | none => false
    | _ => false
  | .indexAddr t x i => match P.underlying t with
    | some (.slice e) => if hasT P e then bi q x i fun a b => iadV (sizeT P e) a b k else false
    | some (.array n e) => if hasT P e then bi q x i fun a b => iaaV (sizeT P e) n a b k else false
    | _ => false
  | .index t x i => match P.underlying t with
    | some .string => bi q x i fun a b => sidxV a b k
    | _ => false
  | .field t x f => match P.underlying t with
    | some (.struct fs) => match fs[f]? with
      | some r => if hasT P r.type then un q x fun a => fieldV (oneT P r.type) r.offset (sizeT P r.type) a k else false
      | none => false
    | _ => false
  | .build t ps => match P.underlying t, P.info? t with
    | some (.struct fs), some i => match i.zero with
      | some z => if fs.toList.all (fun f => hasT P f.type) = true then (match zcells z with
        | some v => parts P q (fun j => (fs[j]?).map fun f => (f.offset, f.type)) ps.toList v fun l => k (.x .agg l V.nil)
        | none => false) else false
      | none => false
    | _, _ => false
  | .makeFunc (.func f) first captured => match oprs q first.toList, oprs q captured.toList with
    | some a, some b => k (.x (.func f) a b)
    | _, _ => false
  | .makeInterface t x => match P.underlying t with
    | some (.interface _) => false
    | some _ => un q x fun a => k (.x (.iface t) a V.nil)
    | none => false
  | .extract x i => un q x fun a => ext i a k
  | .call ⟨.builtin b, xs, ts⟩ => match b, xs.toList, ts[0]? with
    | .len, [x], some t => match P.underlying t with
      | some .string => un q x fun a => lenS a k
      | some (.slice _) => un q x fun a => lenL a k
      | _ => false
    | .unsafeSliceData, [x], _ => un q x fun a => sdata a k
    | .cap, [x], some t => match P.underlying t with
      | some (.slice _) => un q x fun a => capL a k
      | _ => false
    | .copy, [x, y], some t => match P.underlying t, ts.toList with
      | some (.slice e), [_, _] => if (P.info? e).map (·.size) = some 1 then bi q x y fun a b => copL a b k else false
      | _, _ => false
    | .max, [x, y], _ => bi q x y fun a b => maxV a b k
    | .min, [x, y], _ => bi q x y fun a b => minV a b k
    | _, _, _ => false
  | _ => false

/-- what looks at memory and leaves it alone -/
abbrev lop (o : Op) (h : H) (k : V → Bool) : Bool := match o with
  | .load t a => if hasT P t then un q a fun a => (if oneT P t = true then ld1 a h k else lda (sizeT P t) a h k) else false
  | .convert s t x => match P.underlying s, P.underlying t with
    | some (.slice e), some .string => match P.underlying e with
      | some (.int .u8) => un q x fun a => b2s a h k
      | _ => false
    | some (.pointer u), some .unsafePointer => if sizeT P u = 0 then false else un q x fun a => cvU a h k
    | some .unsafePointer, some (.pointer u) => if liesAt P P.depth u (sizeT P u / P.cellsOf u) 0 u 1 = true then (if sizeT P u = 0 then false else un q x fun a => cvP u (sizeT P u) a h k) else false
    | _, _ => false
  | .lookup t x i ok => match P.underlying t with
    | some (.map kt et) => (match P.underlying kt, P.info? et with
      | some .string, some j => (match j.zero with
        | some z => (match absV z with | some a => bi q x i fun u v => mpL ok a u v h k | none => false)
        | none => false)
      | _, _ => false)
    | _ => false
  | _ => false

/-- what makes one new block -/
abbrev aop (o : Op) (id : Nat) (h : H) (k : KV) : Bool := match o with
  | .box e x => if hasT P e then un q x fun a => newA id (oneT P e) (sizeT P e) e a h k else false
  | .alloc e => if hasT P e then match P.info? e with
    | some i => match i.zero with
      | some z => match absV z with
        | some a => newA id (oneT P e) (sizeT P e) e a h k
        | none => false
      | none => false
    | none => false else false
  | .convert s t x => match P.underlying s, P.underlying t with
    | some .string, some (.slice e) => match P.underlying e with
      | some (.int .u8) => un q x fun a => s2bA id e a h k
      | _ => false
    | _, _ => false
  | .buildSlice t len ps => match P.underlying t with
    | some (.slice e) => match P.info? e with
      | some i => match i.zero with
        | some z => if hasT P e = true ∧ len * i.size ≤ 4096 ∧ 1 ≤ i.size ∧ z.cells.size = i.size then (match zslice z (len * i.size) with
          | some v => parts P q (fun j => some (j * i.size, e)) ps.toList v fun l => bslA id len i.size e l h k
          | none => false) else false
        | none => false
      | none => false
    | _ => false
  | .range t x => match P.underlying t with
    | some .string => un q x fun a => itA id a h k
    | _ => false
  | .makeMap t none => mapA id h k
  | .makeSlice t x y => match P.underlying t with
    | some (.slice e) => match P.info? e with
      | some i => match i.zero with
        | some z => match absV z with
          | some v => if i.size = 1 ∧ i.bytes ≤ 4096 ∧ z.oneCell' = true then bi q x y fun a b => mkslA id e v a b h k else false
          | none => false
        | none => false
      | none => false
    | _ => false
  | _ => false

abbrev appOp (ts : Array TypeId) (x y : Operand) (h : H) (k : KV) : Bool := match ts[0]? with
  | some t => match P.underlying t, ts[1]? with
    | some (.slice e), some u => match P.underlying u, P.info? e with
      | some .string, some i => if i.bytes ≤ 4096 then (match i.zero with | some z => if z.cells.size = i.size then bi q x y fun a b => app i.size e a b h k else false | none => false) else false
      | some (.slice _), some i => if i.bytes ≤ 4096 then (match i.zero with | some z => if z.cells.size = i.size then bi q x y fun a b => app i.size e a b h k else false | none => false) else false
      | _, _ => false
    | _, _ => false
  | none => false

/-- what may turn memory -/
abbrev fop (o : Op) (h : H) (k : KV) : Bool := match o with
  | .store t a x => if hasT P t then bi q a x fun a b => st (oneT P t) (sizeT P t) a b h k else false
  | .call ⟨.value (.func f), xs, _⟩ => match oprs q xs.toList with | some l => cf f l h k | none => false
  | .call ⟨.value x, xs, _⟩ => match oprs q xs.toList with | some l => un q x fun a => callV cf a l h k | none => false
  | .call ⟨.builtin .append, xs, ts⟩ => match xs.toList with | [x, y] => appOp P q ts x y h k | _ => false
  | .next x true => un q x fun a => itN a h k
  | .insert t x y z => match P.underlying t with
    | some (.map kt _) => (match P.underlying kt with
      | some .string => un q x fun a => bi q y z fun b c => mpI a b c h k
      | _ => false)
    | _ => false
  | .convert s t x => match P.underlying s, P.underlying t with
    | some (.slice e), some (.slice e') => if s = t ∧ e = e' then (match P.underlying e with | some (.int .u8) => un q x fun a => cvS a h k | _ => false) else false
    | _, _ => false
  | .call ⟨.builtin .unsafeString, xs, ts⟩ => match xs.toList, ts.toList with
    | [x, y], [t, _] => match P.underlying t with
      | some (.pointer e) => if P.cellsOf e = 1 then bi q x y fun a b => usS e a b h k else false
      | _ => false
    | _, _ => false
  | _ => false

/-- of which of the four an operation is -/
inductive Cl where
  | p | l | a | f
abbrev clOf (o : Op) : Cl := match o with
  | .load .. => .l
  | .box .. => .a
  | .alloc .. => .a
  | .buildSlice .. => .a
  | .store .. => .f
  | .lookup .. => .l
  | .range .. => .a
  | .makeMap .. => .a
  | .makeSlice .. => .a
  | .next .. => .f
  | .insert .. => .f
  | .call ⟨.builtin .append, _, _⟩ => .f
  | .call ⟨.builtin .unsafeString, _, _⟩ => .f
  | .call ⟨.builtin _, _, _⟩ => .p
  | .call _ => .f
  | .convert s t _ => match P.underlying s, P.underlying t with
    | some (.slice _), some (.slice _) => .f
    | some (.slice _), _ => .l
    | some (.pointer _), _ => .l
    | some .unsafePointer, _ => .l
    | _, some (.slice _) => .a
    | _, _ => .p
  | _ => .p

abbrev vop (o : Op) (h : H) (k : KV) : Bool := match clOf P o with
  | .p => pop P q o fun v => k v h
  | .l => lop P q o h fun v => k v h
  | .a => resv 1 h fun id h' => aop P q o id h' k
  | .f => fop P cf q o h k

end
noncomputable section
variable (P : Program) (G : Nat → Bool) (cf : CallF) (lf : Nat) (N : Fr)

abbrev put (d : Option Tmp) (v : V) (ρ : TL) (e : L8) (k : TL → L8 → Bool) : Bool := match d with
  | none => k ρ e
  | some t => if t < N.n then (match idx N.l t with | some i => putL i v e fun e' => k (.c t v ρ) e' | none => k (.c t v ρ) e) else false

abbrev goR (ops : Array Oper) (i : Nat) (ρ : TL) (e : L8) (h : H) (k : KV) : Bool := match ops[i]? with
  | none => false
  | some o => match o.guard with
    | none => vop P cf (opr P G N ρ e) o.op h k
    | some (j, b) => match ops[j]? with
      | some r => match r.dst with
        | some g => if g < N.n then (if b = true then guardT (getT N g ρ e) h (vop P cf (opr P G N ρ e) o.op h) k else guardF (getT N g ρ e) h (vop P cf (opr P G N ρ e) o.op h) k) else false
        | none => false
      | none => false
abbrev dstR (ops : Array Oper) (i : Nat) : Option Tmp := match ops[i]? with | some o => o.dst | none => none

abbrev runR (ops : Array Oper) (l : List Nat) : TL → L8 → H → KT → Bool := List.rec (motive := fun _ => TL → L8 → H → KT → Bool)
  (fun ρ e h K => K ρ e h)
  (fun i _ ih ρ e h K => goR P G cf N ops i ρ e h fun v h' => put N (dstR ops i) v ρ e fun ρ' e' => ih ρ' e' h' K) l

/-- an operation that makes its block at a place that was kept for it -/
abbrev vopD (q : Operand → Option V) (id : Nat) (o : Op) (h : H) (k : KV) : Bool := match clOf P o with
  | .p => pop P q o fun v => k v h
  | .l => lop P q o h fun v => k v h
  | .a => aop P q o id h k
  | .f => fop P cf q o h k
abbrev goD (ops : Array Oper) (id i : Nat) (ρ : TL) (e : L8) (h : H) (k : KV) : Bool := match ops[i]? with
  | none => false
  | some o => match o.guard with
    | none => vopD P cf (opr P G N ρ e) id o.op h k
    | some (j, b) => match ops[j]? with
      | some r => match r.dst with
        | some g => if g < N.n then (if b = true then guardT (getT N g ρ e) h (vopD P cf (opr P G N ρ e) id o.op h) k else guardF (getT N g ρ e) h (vopD P cf (opr P G N ρ e) id o.op h) k) else false
        | none => false
      | none => false
/-- loads again: they find what they found -/
abbrev chksD (ops : Array Oper) : List Nat → TL → L8 → H → Bool → Bool
  | [], ρ, e, h, k => k
  | j :: r, ρ, e, h, k => match dstR ops j with
    | some d => goD P G cf N ops 0 j ρ e h fun v _ => both (eqV v (getT N d ρ e)) (chksD ops r ρ e h k)
    | none => false
abbrev runD (ops : Array Oper) (b : Nat) (l : List Od) : TL → L8 → H → KT → Bool := List.rec (motive := fun _ => TL → L8 → H → KT → Bool)
  (fun ρ e h K => K ρ e h)
  (fun x _ ih ρ e h K => goD P G cf N ops (Nat.add b x.r) x.i ρ e h fun v h' => put N (dstR ops x.i) v ρ e fun ρ' e' => chksD P G cf N ops x.c ρ' e' h' (ih ρ' e' h' K)) l

/-- its class -/
abbrev clD (ops : Array Oper) (i : Nat) : Cl := match ops[i]? with | some o => clOf P o.op | none => .p
abbrev isL (c : Cl) : Bool := match c with | .l => true | _ => false
/-- its place is among those that are kept; what is looked at again are loads -/
abbrev okD (ops : Array Oper) (n : Nat) (x : Od) : Bool := (match clD P ops x.i with | .a => Nat.ble (Nat.succ x.r) n | _ => true) && x.c.all fun j => isL (clD P ops j)
/-- a region as it stands, in the order of the text; or in the order laid down for it -/
abbrev regR : Code → Option (TL → L8 → H → KT → Bool)
  | .region _ ops false => some (runR P G cf N ops (List.range ops.size))
  | .region i ops true => match N.o i with
    | some (n, l) => if l.all (okD P ops n) = true then some fun ρ e h K => resv n h fun b h' => runD P G cf N ops b l ρ e h' K else none
    | none => none
  | _ => none

abbrev exec (c : Code) : TL → M := Code.rec (motive := fun _ => TL → M)
  (fun _ e h K => K .n e h)
  (fun i ops d ρ => match regR P G cf N (.region i ops d) with
    | some f => fun e h K => f ρ e h fun _ e' h' => K .n e' h'
    | none => fun _ _ _ => false)
  (fun a _ iha ihb ρ => match regR P G cf N a with
    | some f => fun e h K => f ρ e h fun ρ' e' h' => ihb ρ' e' h' K
    | none => seqM (iha ρ) (ihb .n))
  (fun c _ _ iha ihb ρ e h K => match opr P G N ρ e c with
    | some x => condV x (iha ρ e h K) (ihb ρ e h K)
    | none => false)
  (fun i _ ih ρ => blockM i (ih ρ))
  (fun _ ih _ => loopM lf (ih .n))
  (fun _ _ _ _ _ _ _ _ _ _ => false)
  (fun i _ e h K => K (.x i) e h)
  (fun _ _ _ _ _ _ => false)
  (fun _ _ _ _ _ => false)
  (fun _ _ _ _ _ => false)
  (fun _ e h K => K .r e h)
  (fun _ _ _ _ _ => false) c

end
section
variable {P : Program} {G : Nat → Bool} {cf : CallF} {lf : Nat} {N : Fr}
theorem exec_region (i : Nat) (ops : Array Oper) (d : Bool) (ρ : TL) : exec P G cf lf N (.region i ops d) ρ = match regR P G cf N (.region i ops d) with
    | some f => fun e h K => f ρ e h fun _ e' h' => K .n e' h'
    | none => fun _ _ _ => false := rfl
theorem exec_seq (a b : Code) (ρ : TL) : exec P G cf lf N (.seq a b) ρ = match regR P G cf N a with
    | some f => fun e h K => f ρ e h fun ρ' e' h' => exec P G cf lf N b ρ' e' h' K
    | none => seqM (exec P G cf lf N a ρ) (exec P G cf lf N b .n) := rfl
theorem exec_cond (c : Operand) (a b : Code) (ρ : TL) : exec P G cf lf N (.cond c a b) ρ = fun e h K => match opr P G N ρ e c with
    | some x => condV x (exec P G cf lf N a ρ e h K) (exec P G cf lf N b ρ e h K)
    | none => false := rfl
end
end Go.Bvm
