/- The abstract machine: each operation has one answer, or none. Conditions: none. -/
import Derived.Test.YtacpnpdggbfkgaaDoorBvmFn
set_option linter.unusedVariables false
namespace Go.Bvm

/-- one answer, whatever comes behind; or none -/
def RetG {α : Type} (F : (α → Bool) → Bool) : Prop := (∀ k, F k = false) ∨ ∃ a, ∀ k, F k = k a

section
variable {α : Type}
theorem RetG.no : RetG (fun _ : α → Bool => false) := .inl fun _ => rfl
theorem RetG.k (a : α) : RetG (fun k : α → Bool => k a) := .inr ⟨a, fun _ => rfl⟩
theorem RetG.onW {v : V} {f : Nat → (α → Bool) → Bool} (h : ∀ n, RetG (f n)) : RetG (fun k => onW v fun n => f n k) := by
  cases v <;> first | exact .no | exact h _
theorem RetG.onY {v : V} {f : Nat → (α → Bool) → Bool} (h : ∀ n, RetG (f n)) : RetG (fun k => onY v fun n => f n k) := by
  cases v <;> first | exact .no | exact h _
theorem RetG.onT {v : V} {f : Bool → (α → Bool) → Bool} (h : ∀ n, RetG (f n)) : RetG (fun k => onT v fun n => f n k) := by
  cases v <;> first | exact .no | exact h _
theorem RetG.onS {v : V} {f : Nat → Nat → (α → Bool) → Bool} (h : ∀ l n, RetG (f l n)) : RetG (fun k => onS v fun l n => f l n k) := by
  cases v <;> first | exact .no | exact h _ _
theorem RetG.onP {v : V} {f : Nat → Nat → Nat → Nat → (α → Bool) → Bool} (h : ∀ a b c d, RetG (f a b c d)) : RetG (fun k => onP v fun a b c d => f a b c d k) := by
  cases v <;> first | exact .no | exact h _ _ _ _
theorem RetG.onSl {v : V} {g : (α → Bool) → Bool} {f : Nat → Nat → Nat → Nat → Nat → (α → Bool) → Bool} (hn : RetG g) (h : ∀ a b c d e, RetG (f a b c d e)) : RetG (fun k => onSl v (g k) fun a b c d e => f a b c d e k) := by
  cases v with
  | sl a b c d e => exact h _ _ _ _ _
  | x t a b => cases t <;> first | exact .no | exact hn
  | _ => exact .no
theorem RetG.onAgg {v : V} {f : V → (α → Bool) → Bool} (h : ∀ n, RetG (f n)) : RetG (fun k => onAgg v fun n => f n k) := by
  cases v with
  | x t a b => cases t <;> first | exact .no | exact h _
  | _ => exact .no
theorem RetG.onTup {v : V} {f : V → (α → Bool) → Bool} (h : ∀ n, RetG (f n)) : RetG (fun k => onTup v fun n => f n k) := by
  cases v with
  | x t a b => cases t <;> first | exact .no | exact h _
  | _ => exact .no
theorem RetG.onFn {v : V} {f : Nat → V → V → (α → Bool) → Bool} (h : ∀ a b c, RetG (f a b c)) : RetG (fun k => onFn v fun a b c => f a b c k) := by
  cases v with
  | x t a b => cases t <;> first | exact .no | exact h _ _ _
  | _ => exact .no
theorem RetG.onI {v : V} {f : IntKind → Int → (α → Bool) → Bool} (h : ∀ a b, RetG (f a b)) : RetG (fun k => onI v fun a b => f a b k) := by
  cases v with
  | x t a b => cases t <;> first | exact .no | exact h _ _
  | _ => exact .no
theorem RetG.onCons {v : V} {f : V → V → (α → Bool) → Bool} (h : ∀ a b, RetG (f a b)) : RetG (fun k => onCons v fun a b => f a b k) := by
  cases v with
  | x t a b => cases t <;> first | exact .no | exact h _ _
  | _ => exact .no
theorem RetG.onNil {v : V} {f : (α → Bool) → Bool} (h : RetG f) : RetG (fun k => onNil v (f k)) := by
  cases v with
  | x t a b => cases t <;> first | exact .no | exact h
  | _ => exact .no
theorem RetG.onBk {b : Blk} {f : Arr → Nat → Nat → Nat → Nat → Bool → Bool → (α → Bool) → Bool} (h : ∀ a b c d e g i, RetG (f a b c d e g i)) : RetG (fun k => onBk b fun a b c d e g i => f a b c d e g i k) := by
  cases b <;> first | exact .no | exact h _ _ _ _ _ _ _
theorem RetG.onIt {b : Blk} {f : Nat → Nat → Nat → (α → Bool) → Bool} (h : ∀ a b c, RetG (f a b c)) : RetG (fun k => Bvm.onIt b fun a b c => f a b c k) := by
  cases b <;> first | exact .no | exact h _ _ _
theorem RetG.onMp {b : Blk} {f : V → (α → Bool) → Bool} (h : ∀ a, RetG (f a)) : RetG (fun k => Bvm.onMp b fun a => f a k) := by
  cases b <;> first | exact .no | exact h _
theorem RetG.onMap {v : V} {g : (α → Bool) → Bool} {f : Nat → (α → Bool) → Bool} (hn : RetG g) (h : ∀ a, RetG (f a)) : RetG (fun k => Bvm.onMap v (g k) fun a => f a k) := by
  cases v with
  | x t a b => cases t <;> first | exact .no | exact hn | exact h _
  | _ => exact .no
theorem RetG.fndK {l n : Nat} {yes : V → (α → Bool) → Bool} {no : (α → Bool) → Bool} (hy : ∀ v, RetG (yes v)) (hn : RetG no) : ∀ kv : V, RetG (fun k => Bvm.fndK l n kv (fun v => yes v k) (no k)) := by
  intro kv
  induction kv with
  | x g e r _ ih =>
    cases g <;> first | exact .no | exact hn | skip
    show RetG (fun k => Bvm.onCons e fun key val => Bvm.onS key fun l' n' => Bvm.bs (seqB l n l' n') (yes val k) (Bvm.fndK l n r (fun v => yes v k) (no k)))
    cases e with
    | x g key val =>
      cases g <;> first | exact .no | skip
      show RetG (fun k => Bvm.onS key fun l' n' => Bvm.bs (seqB l n l' n') (yes val k) (Bvm.fndK l n r (fun v => yes v k) (no k)))
      cases key <;> first | exact .no | skip
      rename_i l' n' _
      show RetG (fun k => Bvm.bs (seqB l n l' n') (yes val k) (Bvm.fndK l n r (fun v => yes v k) (no k)))
      cases seqB l n l' n'
      · exact ih
      · exact hy _
    | _ => exact .no
  | _ => exact .no
theorem RetG.both {b : Bool} {f : (α → Bool) → Bool} (h : RetG f) : RetG (fun k => both b (f k)) := by
  cases b
  · exact .no
  · exact h
theorem RetG.bs {b : Bool} {f g : (α → Bool) → Bool} (h : RetG f) (h' : RetG g) : RetG (fun k => bs b (f k) (g k)) := by
  cases b
  · exact h'
  · exact h
/-- answers one behind the other -/
theorem RetG.bind {β : Type} {F : (β → Bool) → Bool} {f : β → (α → Bool) → Bool} (hF : RetG F) (h : ∀ b, RetG (f b)) : RetG (fun k => F fun b => f b k) := by
  rcases hF with e | ⟨b, e⟩
  · exact .inl fun k => e _
  · rcases h b with e2 | ⟨a, e2⟩
    · exact .inl fun k => (e _).trans (e2 k)
    · exact .inr ⟨a, fun k => (e _).trans (e2 k)⟩
theorem RetG.un {q : Operand → Option V} {x : Operand} {f : V → (α → Bool) → Bool} (h : ∀ a, RetG (f a)) : RetG (fun k => un q x fun a => f a k) := by
  unfold Bvm.un
  cases q x
  · exact .no
  · exact h _
theorem RetG.bi {q : Operand → Option V} {x y : Operand} {f : V → V → (α → Bool) → Bool} (h : ∀ a b, RetG (f a b)) : RetG (fun k => bi q x y fun a b => f a b k) := by
  unfold Bvm.bi
  cases q x <;> cases q y <;> first | exact .no | exact h _ _
theorem RetG.bdo {q : Operand → Option V} {x : Option Operand} {f : Option V → (α → Bool) → Bool} (h : ∀ a, RetG (f a)) : RetG (fun k => bdo q x fun a => f a k) := by
  unfold Bvm.bdo
  cases x with
  | none => exact h _
  | some y => dsimp only; cases q y <;> first | exact .no | exact h _
end

/-- operations with one answer -/
def Ret1 (f : F1) : Prop := ∀ x, RetG (f x)
def Ret2 (f : F2) : Prop := ∀ x y, RetG (f x y)

theorem ret_addW : Ret2 addW := fun x y => .onW fun a => .onW fun b => .k _
theorem ret_addY : Ret2 addY := fun x y => .onY fun a => .onY fun b => .k _
theorem ret_subW : Ret2 subW := fun x y => .onW fun a => .onW fun b => .k _
theorem ret_subY : Ret2 subY := fun x y => .onY fun a => .onY fun b => .k _
theorem ret_lssW : Ret2 lssW := fun x y => .onW fun a => .onW fun b => .k _
theorem ret_lssY : Ret2 lssY := fun x y => .onY fun a => .onY fun b => .k _
theorem ret_leqW : Ret2 leqW := fun x y => .onW fun a => .onW fun b => .k _
theorem ret_leqY : Ret2 leqY := fun x y => .onY fun a => .onY fun b => .k _
theorem ret_gtrW : Ret2 gtrW := fun x y => .onW fun a => .onW fun b => .k _
theorem ret_gtrY : Ret2 gtrY := fun x y => .onY fun a => .onY fun b => .k _
theorem ret_geqY : Ret2 geqY := fun x y => .onY fun a => .onY fun b => .k _
theorem ret_eqlW : Ret2 eqlW := fun x y => .onW fun a => .onW fun b => .k _
theorem ret_eqlY : Ret2 eqlY := fun x y => .onY fun a => .onY fun b => .k _
theorem ret_neqW : Ret2 neqW := fun x y => .onW fun a => .onW fun b => .k _
theorem ret_neqY : Ret2 neqY := fun x y => .onY fun a => .onY fun b => .k _
theorem ret_eqlS : Ret2 eqlS := fun x y => .onS fun l n => .onS fun l' n' => .k _
theorem ret_neqS : Ret2 neqS := fun x y => .onS fun l n => .onS fun l' n' => .k _
theorem ret_catV : Ret2 catV := fun x y => .onS fun l n => .onS fun l' n' => .both (.k _)
theorem ret_arith {fw fy : Nat → Nat → (V → Bool) → Bool} {fz : IntKind → Int → Int → (V → Bool) → Bool} (hw : ∀ a b, RetG (fw a b)) (hy : ∀ a b, RetG (fy a b)) (hz : ∀ q a b, RetG (fz q a b)) : Ret2 (arith fw fy fz) := fun x y =>
  .bs (.both (hw _ _)) (.bs (.both (hy _ _)) (.both (.both (.both (hz _ _ _)))))
theorem ret_addV : Ret2 addV := ret_arith (fun _ _ => .k _) (fun _ _ => .k _) (fun _ _ _ => .k _)
theorem ret_subV : Ret2 subV := ret_arith (fun _ _ => .k _) (fun _ _ => .k _) (fun _ _ _ => .k _)
theorem ret_mulV : Ret2 mulV := ret_arith (fun _ _ => .k _) (fun _ _ => .k _) (fun _ _ _ => .k _)
theorem ret_quoV : Ret2 quoV := ret_arith (fun _ _ => .both (.both (.k _))) (fun _ _ => .both (.k _)) (fun _ _ _ => .bs .no (.k _))
theorem ret_remV : Ret2 remV := ret_arith (fun _ _ => .both (.both (.k _))) (fun _ _ => .both (.k _)) (fun _ _ _ => .bs .no (.k _))
theorem ret_maxV : Ret2 maxV := ret_arith (fun _ _ => .k _) (fun _ _ => .k _) (fun _ _ _ => .k _)
theorem ret_minV : Ret2 minV := ret_arith (fun _ _ => .k _) (fun _ _ => .k _) (fun _ _ _ => .k _)
theorem ret_cmpV {f : Nat → Nat → Bool} {g : Int → Int → Bool} {hs : Nat → Nat → Nat → Nat → (V → Bool) → Bool} (h : ∀ a b c d, RetG (hs a b c d)) : Ret2 (cmpV f g hs) := fun x y =>
  .bs (.both (.k _)) (.bs (.both (.k _)) (.bs (.both (h _ _ _ _)) (.both (.both (.both (.k _))))))
theorem ret_lssV : Ret2 lssV := ret_cmpV fun _ _ _ _ => .k _
theorem ret_leqV : Ret2 leqV := ret_cmpV fun _ _ _ _ => .k _
theorem ret_gtrV : Ret2 gtrV := ret_cmpV fun _ _ _ _ => .k _
theorem ret_geqV : Ret2 geqV := fun x y => .bs (.onW fun m => .both (.k _)) (ret_cmpV (fun _ _ _ _ => .k _) x y)
theorem ret_eqlP (f : Bool → Bool) : Ret2 (eqlP f) := ret_cmpV fun _ _ _ _ => .k _
theorem ret_eqT (f : Bool → Bool) : Ret2 (eqT f) := fun x y => .onT fun a => .onT fun b => .k _
theorem ret_eqN {nk : V → (Bool → Bool) → Bool} (h : ∀ v, RetG (nk v)) (f : Bool → Bool) : Ret2 (eqN nk f) := fun x y =>
  RetG.bind (F := nk x) (f := fun a (k : V → Bool) => nk y fun b => both (bs a true b) (k (V.t (f (both a b))))) (h x) fun a =>
    RetG.bind (F := nk y) (f := fun b (k : V → Bool) => both (bs a true b) (k (V.t (f (both a b))))) (h y) fun b => .both (.k _)
theorem ret_nilP (v : V) : RetG (nilP v) := by
  cases v with
  | x t a b => cases t <;> first | exact .no | exact .k _
  | p => exact .k _
  | _ => exact .no
theorem ret_nilS (v : V) : RetG (nilS v) := by
  cases v with
  | x t a b => cases t <;> first | exact .no | exact .k _
  | sl => exact .k _
  | _ => exact .no
theorem ret_nilI (v : V) : RetG (nilI v) := by
  cases v with
  | x t a b => cases t <;> first | exact .no | exact .k _
  | _ => exact .no
theorem ret_nilM (v : V) : RetG (nilM v) := by
  cases v with
  | x t a b => cases t <;> first | exact .no | exact .k _
  | _ => exact .no
theorem ret_nilF (v : V) : RetG (nilF v) := by
  cases v with
  | x t a b => cases t <;> first | exact .no | exact .k _
  | _ => exact .no
theorem ret_no2 : Ret2 no2 := fun _ _ => .no

variable (P : Program)
theorem ret_byK {t : TypeId} {w y z s : F2} (hw : Ret2 w) (hy : Ret2 y) (hz : Ret2 z) (hs : Ret2 s) : Ret2 (byK P t w y z s) := by
  unfold byK
  split
  · exact hw
  · exact hy
  · exact hz
  · exact hs
  · exact ret_no2
theorem ret_eqPt (f : Bool → Bool) : Ret2 (eqPt f) := fun x y => .bs (.onP fun i o l v => .onP fun i' o' l' v' => .both (.both (.both (.k _)))) (ret_eqN ret_nilP f x y)
theorem ret_eqF (f : Bool → Bool) (t : TypeId) : Ret2 (eqF P f t) := by
  unfold eqF
  split
  · exact ret_eqT f
  · split
    · exact ret_eqPt f
    · exact ret_no2
  · exact ret_eqN ret_nilS f
  · exact ret_eqN ret_nilI f
  · exact ret_eqN ret_nilM f
  · exact ret_eqN ret_nilF f
  · exact ret_no2
theorem RetG.onIx {α : Type} {v : V} {f : Nat → (α → Bool) → Bool} (h : ∀ n, RetG (f n)) : RetG (fun k => onIx v fun n => f n k) :=
  .bs (.onW fun i => .both (h _)) (.bs (.onY fun n => h n) (.onI fun q n => .both (h _)))
theorem ret_shrV : Ret2 shrV := fun x y => .onIx fun b => .bs (.both (.onW fun n => .both (.k _))) (.bs (.both (.onY fun n => .k _)) (.onI fun q a => .both (.k _)))
theorem ret_copD (x : V) : RetG (copD x) := .onSl (.k _) fun _ _ _ _ _ => .k _
theorem ret_copL : Ret2 copL := fun x y => .onSl (ret_copD x) fun _ _ _ _ _ => .both (ret_copD x)
theorem ret_binF (op : BinOp) (t : TypeId) : Ret2 (binF P op t) := by
  unfold binF
  split
  · exact ret_byK P ret_addW ret_addY ret_addV ret_catV
  · exact ret_byK P ret_subW ret_subY ret_subV ret_no2
  · exact ret_byK P ret_mulV ret_mulV ret_mulV ret_no2
  · exact ret_byK P ret_quoV ret_quoV ret_quoV ret_no2
  · exact ret_byK P ret_remV ret_remV ret_remV ret_no2
  · exact ret_byK P ret_lssW ret_lssY ret_lssV ret_lssV
  · exact ret_byK P ret_leqW ret_leqY ret_leqV ret_leqV
  · exact ret_byK P ret_gtrW ret_gtrY ret_gtrV ret_gtrV
  · exact ret_byK P ret_geqV ret_geqY ret_geqV ret_geqV
  · split
    · exact ret_eqlW
    · exact ret_eqlY
    · exact ret_eqlP _
    · exact ret_eqlS
    · exact ret_eqF P _ t
  · split
    · exact ret_neqW
    · exact ret_neqY
    · exact ret_eqlP _
    · exact ret_neqS
    · exact ret_eqF P _ t
  · exact ret_shrV
  · exact ret_no2

theorem ret_toW : Ret1 toW := fun v => by
  cases v with
  | w => exact .k _
  | y => exact .k _
  | x t a b => cases t <;> first | exact .no | exact .k _
  | _ => exact .no
theorem ret_toY : Ret1 toY := fun v => by
  cases v with
  | w => exact .k _
  | y => exact .k _
  | x t a b => cases t <;> first | exact .no | exact .k _
  | _ => exact .no
theorem ret_toI (q : IntKind) : Ret1 (toI q) := fun v => by
  cases v with
  | w => exact .k _
  | y => exact .k _
  | x t a b => cases t <;> first | exact .no | exact .k _
  | _ => exact .no
theorem ret_convF (s t : TypeId) : Ret1 (convF P s t) := by
  unfold convF
  split
  · split
    · exact ret_toW
    · split
      · exact ret_toY
      · exact ret_toI _
  · exact fun v => .onS fun l n => .k _
  · exact fun _ => .no
theorem ret_nilckV : Ret1 nilckV := fun v => by
  cases v with
  | x t a b => cases t <;> first | exact .no | exact .k _
  | _ => exact .k _
theorem ret_bnd (x : Option V) (d : Nat) : RetG (bnd x d) := by
  cases x with
  | none => exact .k _
  | some v => exact .onW fun i => .both (.k _)
theorem ret_vnth (l : V) : ∀ n : Nat, RetG (vnth l n) := by
  induction l with
  | x g a b iha ihb =>
    intro n
    cases g <;> first | exact .no | skip
    cases n with
    | zero => exact .k _
    | succ n => exact ihb n
  | _ => intro n; exact .no
theorem ret_ext (i : Nat) : Ret1 (ext i) := fun x => .onTup fun l => ret_vnth l i
theorem ret_vdrop (l : V) : ∀ n : Nat, RetG (vdrop l n) := by
  induction l with
  | x g a b iha ihb =>
    intro n
    cases g <;> first | exact .no | skip
    all_goals cases n
    · exact .k _
    · exact ihb _
    · exact .k _
    · exact .no
  | _ => intro n; exact .no
theorem ret_vtake (l : V) : ∀ n : Nat, RetG (vtake l n) := by
  induction l with
  | x g a b iha ihb =>
    intro n
    cases g <;> first | exact .no | skip
    all_goals cases n
    · exact .k _
    · rename_i n; exact RetG.bind (F := vtake b n) (f := fun r (k : V → Bool) => k (.x .cons a r)) (ihb n) fun r => .k _
    · exact .k _
    · exact .no
  | _ => intro n; exact .no
theorem ret_vput (l : V) : ∀ (off : Nat) (vs : V), RetG (vput l off vs) := by
  induction l with
  | x g a b iha ihb =>
    intro off vs
    cases g <;> first | exact .no | skip
    all_goals cases off
    · cases vs with
      | x g' v vr =>
        cases g' <;> first | exact .no | exact .k _ | skip
        exact RetG.bind (F := vput b 0 vr) (f := fun r (k : V → Bool) => k (.x .cons v r)) (ihb 0 vr) fun r => .k _
      | _ => exact .no
    · rename_i m; exact RetG.bind (F := vput b m vs) (f := fun r (k : V → Bool) => k (.x .cons a r)) (ihb m vs) fun r => .k _
    · cases vs with
      | x g' v vr => cases g' <;> first | exact .no | exact .k _
      | _ => exact .no
    · exact .no
  | _ => intro n vs; exact .no
theorem ret_fieldV (one : Bool) (o n : Nat) : Ret1 (fieldV one o n) := fun x => .onAgg fun l =>
  RetG.bind (F := vdrop l o) (f := fun r (k : V → Bool) => bs one (vnth r 0 k) (vtake r n fun q => k (.x .agg q V.nil))) (ret_vdrop l o) fun r =>
    .bs (ret_vnth r 0) (RetG.bind (F := vtake r n) (f := fun q (k : V → Bool) => k (.x .agg q V.nil)) (ret_vtake r n) fun q => .k _)
theorem ret_part (off : Nat) (one : Bool) (n : Nat) (x l : V) : RetG (part off one n x l) :=
  .bs (.both (.both (ret_vput _ _ _))) (.onAgg fun q => .both (ret_vput _ _ _))
theorem ret_parts {q : Operand → Option V} {place : Nat → Option (Nat × TypeId)} : ∀ (ps : List (Nat × Operand)) (l : V), RetG (parts P q place ps l)
  | [], l => .k _
  | (i, x) :: r, l => by
    show RetG (fun k => match place i, q x with | some (off, t), some g => if hasT P t then part off (oneT P t) (sizeT P t) g l fun l' => parts P q place r l' k else false | _, _ => false)
    split
    · split
      · exact RetG.bind (F := part _ _ _ _ l) (f := fun l' (k : V → Bool) => parts P q place r l' k) (ret_part _ _ _ _ _) fun l' => ret_parts r l'
      · exact .no
    · exact .no
theorem ret_lay (l : V) : ∀ (n i : Nat) (c : Arr), RetG (lay l n i c) := by
  induction l with
  | x g a b iha ihb =>
    intro n i c
    cases g <;> first | exact .no | skip
    all_goals cases n
    · exact .no
    · exact ihb _ _ _
    · exact .k _
    · exact .no
  | _ => intro n i c; exact .no
theorem ret_layV (one : Bool) (v : V) (n i : Nat) (c : Arr) : RetG (layV one v n i c) :=
  .bs (.both (.both (.k _))) (.onAgg fun l => ret_lay l n i c)
theorem ret_eqI (x y : V) : RetG (eqI x y) := .bs (.onW fun a => .onW fun b => .k _) (.bs (.onY fun a => .onY fun b => .k _) (RetG.onI fun q n => RetG.onI fun q' m => .both (.k _)))
theorem ret_eq1 (c : Nat) (x y : V) : RetG (eq1 c x y) := .bs (ret_eqI x y) (.bs (.onS fun l n => .onS fun l' n' => .k _) (.onT fun a => .onT fun b => .k _))
theorem ret_eqLs : ∀ (ks : List Nat) (x y : V), RetG (eqLs ks x y)
  | [], x, y => .onNil (.onNil (.k _))
  | c :: r, x, y => .onCons fun a x' => .onCons fun b y' => RetG.bind (F := eq1 c a b) (f := fun r1 (k : Bool → Bool) => eqLs r x' y' fun q => k (bs r1 q false)) (ret_eq1 c a b) fun r1 =>
      RetG.bind (F := eqLs r x' y') (f := fun q (k : Bool → Bool) => k (bs r1 q false)) (ret_eqLs r x' y') fun q => .k _
theorem ret_eqAg (ks : List Nat) (f : Bool → Bool) : Ret2 (eqAg ks f) := fun x y => .onAgg fun l => .onAgg fun m => RetG.bind (F := eqLs ks l m) (f := fun r (k : V → Bool) => k (.t (f r))) (ret_eqLs ks l m) fun r => .k _
theorem ret_packA (c : Arr) : ∀ n i : Nat, RetG (packA c n i)
  | 0, i => .k _
  | n + 1, i => .onY fun b => RetG.bind (F := packA c n (i + 1)) (f := fun r (k : Nat → Bool) => k (b + 256 * r)) (ret_packA c n (i + 1)) fun r => .k _

end Go.Bvm
