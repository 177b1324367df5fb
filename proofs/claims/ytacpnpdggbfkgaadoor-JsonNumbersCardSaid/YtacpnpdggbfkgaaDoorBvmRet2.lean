/- The abstract machine: each class of operations has one answer. Conditions: none. -/
import Derived.Test.YtacpnpdggbfkgaaDoorBvmRet
set_option linter.unusedVariables false
namespace Go.Bvm
variable {P : Program} {q : Operand → Option V}

theorem ret_pop (o : Op) : RetG (fun k => pop P q o k) := by
  unfold pop
  split
  · exact .un fun a => .k a
  · exact .un fun a => .k a
  · exact .un fun c => .bi fun a b => .onT fun t => .k _
  · exact .un fun a => ret_nilckV a
  · split
    · split
      · exact .bi fun a b => ret_eqAg _ _ a b
      · exact .bi fun a b => ret_eqAg _ _ a b
      · exact .no
    · split
      · exact .bi fun a b => ret_binF P _ _ a b
      · exact .no
  · exact .un fun a => .onT fun b => .k _
  · exact .un fun a => .onW fun b => .k _
  · exact .un fun a => ret_convF P _ _ a
  · split
    · split
      · exact .bdo fun l => .bdo fun u => .un fun a => .onP fun id off lim ver => .both (RetG.bind (F := bnd u _) (f := fun b (k : V → Bool) => both (Nat.ble b _) (bnd l 0 fun c => both (Nat.ble c b) (k _))) (ret_bnd u _) fun b => .both (RetG.bind (F := bnd l 0) (f := fun c (k : V → Bool) => both (Nat.ble c b) (k _)) (ret_bnd l 0) fun c => .both (.k _)))
      · exact .no
    · exact .bdo fun l => .bdo fun u => .un fun a => .onS fun len n => RetG.bind (F := bnd u _) (f := fun b (k : V → Bool) => both (Nat.ble b _) (bnd l 0 fun c => both (Nat.ble c b) (k _))) (ret_bnd u _) fun b => .both (RetG.bind (F := bnd l 0) (f := fun c (k : V → Bool) => both (Nat.ble c b) (k _)) (ret_bnd l 0) fun c => .both (.k _))
    · split
      · exact .bdo fun l => .bdo fun u => .un fun a => .onSl
          (RetG.bind (F := bnd u 0) (f := fun b (k : V → Bool) => both (Nat.ble b 0) (bnd l 0 fun c => both (Nat.ble c b) (k _))) (ret_bnd u _) fun b => .both (RetG.bind (F := bnd l 0) (f := fun c (k : V → Bool) => both (Nat.ble c b) (k _)) (ret_bnd l 0) fun c => .both (.k _)))
          fun id off len ver es => .both (RetG.bind (F := bnd u len) (f := fun b (k : V → Bool) => both (Nat.ble b len) (bnd l 0 fun c => both (Nat.ble c b) (k _))) (ret_bnd u _) fun b => .both (RetG.bind (F := bnd l 0) (f := fun c (k : V → Bool) => both (Nat.ble c b) (k _)) (ret_bnd l 0) fun c => .both (.k _)))
      · exact .no
    · exact .no
  · split
    · split
      · split
        · exact .no
        · exact .un fun a => .onP fun _ _ _ _ => .k _
      · exact .no
    · exact .no
  · split
    · split
      · exact .bi fun a b => .onSl .no fun id off len ver es => .onW fun i => .both (.both (.both (.k _)))
      · exact .no
    · split
      · exact .bi fun a b => .onP fun id off lim ver => .onW fun i => .both (.both (.k _))
      · exact .no
    · exact .no
  · split
    · exact .bi fun a b => .onS fun l n => .onIx fun i => .both (.k _)
    · exact .no
  · split
    · split
      · split
        · exact .un fun a => ret_fieldV _ _ _ a
        · exact .no
      · exact .no
    · exact .no
  · split
    · split
      · split
        · split
          · exact RetG.bind (F := fun k => parts P q _ _ _ k) (f := fun l (k : V → Bool) => k (.x .agg l V.nil)) (ret_parts P _ _) fun l => .k _
          · exact .no
        · exact .no
      · exact .no
    · exact .no
  · split
    · exact .k _
    · exact .no
  · split
    · exact .no
    · exact .un fun a => .k _
    · exact .no
  · exact .un fun a => ret_ext _ a
  · split
    · split
      · exact .un fun a => .onS fun l n => .both (.k _)
      · exact .un fun a => .bs (.k _) (.onSl (.k _) fun _ _ c _ _ => .both (.k _))
      · exact .no
    · exact .un fun a => .onSl (.k _) fun id off len ver es => .both (.k _)
    · split
      · exact .un fun a => .onSl (.k _) fun _ _ _ _ _ => .no
      · exact .no
    · split
      · split
        · exact .bi fun a b => ret_copL a b
        · exact .no
      · exact .no
    · exact .bi fun a b => ret_maxV a b
    · exact .bi fun a b => ret_minV a b
    · exact .no
  · exact .no

theorem ret_lop (o : Op) (h : H) : RetG (fun k => lop P q o h k) := by
  unfold lop
  split
  · split
    · refine .un fun a => ?_
      split
      · exact .onP fun id off lim ver => .onBk fun c _ bver _ _ _ _ => .both (.both (.k _))
      · exact .onP fun id off lim ver => .onBk fun c _ bver _ _ _ _ => .both (.both (.k _))
    · exact .no
  · split
    · split
      · exact .un fun a => .onSl (.k _) fun id off len ver es => .both (.onBk fun c _ bver _ _ _ _ => .both (RetG.bind (F := packA c len off) (f := fun r (k : V → Bool) => k (.s len r)) (ret_packA c len off) fun r => .k _))
      · exact .no
    · split
      · exact .no
      · exact .un fun a => .bs (.k _) (.onP fun id off lim ver => .onBk fun c size bver frz elem ex own => .both (.both (.k _)))
    · split
      · split
        · exact .no
        · exact .un fun a => .bs (.k _) (.onP fun id off lim ver => .onBk fun c size bver frz elem ex own => .both (.both (.both (.both (.both (.k _))))))
      · exact .no
    · exact .no
  · split
    · split
      · split
        · split
          · exact .bi fun u v => .onS fun l n => .onMap (.k _) fun id => .onMp fun kv => RetG.fndK (yes := fun v k => k (mpR _ v true)) (no := fun k => k (mpR _ _ false)) (fun v => .k _) (.k _) kv
          · exact .no
        · exact .no
      · exact .no
    · exact .no
  · exact .no

/-- one answer and one memory -/
def RetV (F : KV → Bool) : Prop := RetG (fun k : V × H → Bool => F fun v h => k (v, h))
theorem RetV.iff {F : KV → Bool} : RetV F ↔ (∀ k, F k = false) ∨ ∃ v h, ∀ k, F k = k v h := by
  constructor
  · rintro (h | ⟨⟨v, h'⟩, h⟩)
    · exact .inl fun k => h fun x => k x.1 x.2
    · exact .inr ⟨v, h', fun k => h fun x => k x.1 x.2⟩
  · rintro (h | ⟨v, h', h⟩)
    · exact .inl fun k => h _
    · exact .inr ⟨(v, h'), fun k => h _⟩

/-- a new block: which, and the answer, as the operands say -/
theorem ret_aop (o : Op) (id : Nat) : (∀ h k, aop P q o id h k = false) ∨ ∃ v b, ∀ h k, aop P q o id h k = k v ⟨h.next, hset id b h.tr⟩ := by
  have key : ∀ {β : Type} (F : (β → Bool) → Bool) (f : β → H → KV → Bool), RetG F → (∀ c, (∀ h k, f c h k = false) ∨ ∃ v b, ∀ h k, f c h k = k v ⟨h.next, hset id b h.tr⟩) →
      ((∀ h k, F (fun c => f c h k) = false) ∨ ∃ v b, ∀ (h : H) (k : KV), F (fun c => f c h k) = k v ⟨h.next, hset id b h.tr⟩) := by
    intro β F f hF hf
    rcases hF with e | ⟨a, e⟩
    · exact .inl fun h k => e _
    · rcases hf a with e2 | ⟨v, b, e2⟩
      · exact .inl fun h k => (e _).trans (e2 h k)
      · exact .inr ⟨v, b, fun h k => (e _).trans (e2 h k)⟩
  have hboth : ∀ {x : Bool} {f : H → KV → Bool}, ((∀ h k, f h k = false) ∨ ∃ v b, ∀ h k, f h k = k v ⟨h.next, hset id b h.tr⟩) → ((∀ h k, both x (f h k) = false) ∨ ∃ v b, ∀ (h : H) (k : KV), both x (f h k) = k v ⟨h.next, hset id b h.tr⟩) := by
    intro x f hf
    cases x
    · exact .inl fun _ _ => rfl
    · exact hf
  have hnew : ∀ one n elem y, (∀ h k, newA id one n elem y h k = false) ∨ ∃ v b, ∀ (h : H) (k : KV), newA id one n elem y h k = k v ⟨h.next, hset id b h.tr⟩ := fun one n elem y =>
    hboth (hboth (key (layV one y n 0 (fresh n)) (fun c h k => k (.p id 0 n 0) ⟨h.next, hset id (.bk c n 0 0 elem true true) h.tr⟩) (ret_layV _ _ _ _ _) fun c => .inr ⟨_, _, fun h k => rfl⟩))
  unfold aop
  split
  · split
    · exact key (fun k => un q _ k) _ (.un fun a => .k a) fun a => hnew _ _ _ _
    · exact .inl fun _ _ => rfl
  · split
    · split
      · split
        · split
          · exact hnew _ _ _ _
          · exact .inl fun _ _ => rfl
        · exact .inl fun _ _ => rfl
      · exact .inl fun _ _ => rfl
    · exact .inl fun _ _ => rfl
  · split
    · split
      · refine key (fun k => un q _ k) _ (.un fun a => .k a) fun a => ?_
        refine key (β := Nat × Nat) (fun k => onS a fun l n => k (l, n)) (fun c h k => both (Nat.ble c.1 4096) (k (.sl id 0 c.1 0 1) ⟨h.next, hset id (.bk (abytes c.1 c.2 0 (fresh c.1)) c.1 0 0 _ false true) h.tr⟩)) (.onS fun l n => .k _) fun c => hboth (.inr ⟨_, _, fun h k => rfl⟩)
      · exact .inl fun _ _ => rfl
    · exact .inl fun _ _ => rfl
  · split
    · split
      · split
        · split
          · split
            · refine key (fun k => parts P q _ _ _ k) _ (ret_parts P _ _) fun l => hboth ?_
              exact key (lay l _ 0 _) (fun c h k => k (.sl id 0 _ 0 _) ⟨h.next, hset id (.bk c _ 0 0 _ true true) h.tr⟩) (ret_lay _ _ _ _) fun c => .inr ⟨_, _, fun h k => rfl⟩
            · exact .inl fun _ _ => rfl
          · exact .inl fun _ _ => rfl
        · exact .inl fun _ _ => rfl
      · exact .inl fun _ _ => rfl
    · exact .inl fun _ _ => rfl
  · split
    · refine key (fun k => un q _ k) _ (.un fun a => .k a) fun a => ?_
      exact key (β := Nat × Nat) (fun k => onS a fun l n => k (l, n)) (fun c h k => both (Nat.ble c.1 1000000000) (k (.p id 0 0 0) ⟨h.next, hset id (.it c.1 c.2 0) h.tr⟩)) (.onS fun l n => .k _) fun c => hboth (.inr ⟨_, _, fun h k => rfl⟩)
    · exact .inl fun _ _ => rfl
  · exact .inr ⟨_, _, fun h k => rfl⟩
  · split
    · split
      · split
        · split
          · split
            · refine key (β := V × V) (fun k => bi q _ _ fun a b => k (a, b)) (fun c h k => mkslA id _ _ c.1 c.2 h k) (.bi fun a b => .k _) fun c => ?_
              exact key (onIx c.1) (fun n h k => onIx c.2 fun m => both (Nat.beq n m) (both (Nat.ble n 4096) (k (.sl id 0 n 0 1) ⟨h.next, hset id (.bk (afill n _) n 0 0 _ true true) h.tr⟩))) (.onIx fun n => .k _) fun n =>
                key (onIx c.2) (fun m h k => both (Nat.beq n m) (both (Nat.ble n 4096) (k (.sl id 0 n 0 1) ⟨h.next, hset id (.bk (afill n _) n 0 0 _ true true) h.tr⟩))) (.onIx fun n => .k _) fun m =>
                  hboth (hboth (.inr ⟨_, _, fun h k => rfl⟩))
            · exact .inl fun _ _ => rfl
          · exact .inl fun _ _ => rfl
        · exact .inl fun _ _ => rfl
      · exact .inl fun _ _ => rfl
    · exact .inl fun _ _ => rfl
  · exact .inl fun _ _ => rfl

end Go.Bvm
