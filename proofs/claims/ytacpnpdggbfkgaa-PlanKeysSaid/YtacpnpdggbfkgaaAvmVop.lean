/- The abstract machine: each operation that it takes stands for the model's. Conditions: none. -/
import Derived.Test.YtacpnpdggbfkgaaAvmBuild
set_option linter.unusedVariables false
namespace Go.Avm
variable {P : Program} {G : Nat → Bool} {N : Fr}

theorem eqOp_ok {o : Oper} {op : BinOp} {f : Bool → Bool} {t u : TypeId} {x y : Operand} (ho : o.op = .binOp op t x y u) (hop : op = .eql ∧ f = idB ∨ op = .neq ∧ f = nots) : OpS P G N o (eqOp P G N f t x y (dstO N o.dst)) := by
  unfold eqOp
  have hcmp : OpS P G N o (bi P G N x y fun a b => binO (eqlP f) (dstO N o.dst) a b) := bi_ok fun g g' hx hy => by
    rcases hop with ⟨rfl, rfl⟩ | ⟨rfl, rfl⟩
    · exact eqop_ok hx hy ho (eql_fun P t) fun φ x y k h c hc => cmp_noagg h c hc
    · exact eqop_ok hx hy ho (neq_fun P t) fun φ x y k h c hc => cmp_noagg h c hc
  split
  · exact hcmp
  · exact hcmp
  · rename_i ht
    exact bi_ok fun g g' hx hy => eqop_ok hx hy ho (eqT_fun f op t ht hop) fun φ x y k h c hc => by
      obtain ⟨b, rfl, _⟩ := onT_true h
      obtain rfl := hc.inv_t; simp
  · exact noO_ok

theorem binOp_ok {o : Oper} {op : BinOp} {t u : TypeId} {x y : Operand} (ho : o.op = .binOp op t x y u) : OpS P G N o (binOp P G N op t x y (dstO N o.dst)) := by
  unfold binOp
  split
  · exact bi_ok fun g g' hx hy => binop_ok hx hy ho (by simp) (plus_fun P t)
  · exact bi_ok fun g g' hx hy => binop_ok hx hy ho (by simp) (sub_fun P t)
  · exact bi_ok fun g g' hx hy => binop_ok hx hy ho (by simp) (mul_fun P t)
  · exact bi_ok fun g g' hx hy => binop_ok hx hy ho (by simp) (quo_fun P t)
  · exact bi_ok fun g g' hx hy => binop_ok hx hy ho (by simp) (rem_fun P t)
  · exact bi_ok fun g g' hx hy => binop_ok hx hy ho (by simp) (lss_fun P t)
  · exact bi_ok fun g g' hx hy => binop_ok hx hy ho (by simp) (leq_fun P t)
  · exact bi_ok fun g g' hx hy => binop_ok hx hy ho (by simp) (gtr_fun P t)
  · exact bi_ok fun g g' hx hy => binop_ok hx hy ho (by simp) (geq_fun P t)
  · exact eqOp_ok ho (.inl ⟨rfl, rfl⟩)
  · exact eqOp_ok ho (.inr ⟨rfl, rfl⟩)
  · exact noO_ok

theorem convF_ok {o : Oper} {src dst : TypeId} {x : Operand} {g : E → V} {f : V → (V → Bool) → Bool} (hx : opr P G N x = some g) (ho : o.op = .convert src dst x) (hf : Fun1 P f (fun v => convert src dst v)) : OpS P G N o (unO f (dstO N o.dst) g) := by
  obtain ⟨dst', op', ty, pos, aft, grd⟩ := o
  simp only at ho; subst ho
  exact un_fun_ok hx hf fun ρ => rfl

theorem convS_ok {o : Oper} {src dst : TypeId} {x : Operand} {g : E → V} (hx : opr P G N x = some g) (ho : o.op = .convert src dst x) (hs : P.underlying src = some .string) (hd : P.underlying dst = some .string) : OpS P G N o (unO (fun v k => onS v fun l n => k (.s l n)) (dstO N o.dst) g) := by
  obtain ⟨dst', op', ty, pos, aft, grd⟩ := o
  simp only at ho; subst ho
  refine un_fun_ok (F := fun v => convert src dst v) hx ?_ (fun ρ => rfl)
  intro φ v k h c hc w
  obtain ⟨l, n, rfl, hk⟩ := onS_true h
  obtain ⟨s, rfl, rfl, rfl⟩ := hc.inv_s
  exact ⟨_, _, str_fun hs hd s w, .s rfl rfl, hk⟩

theorem convOp_ok {o : Oper} {src dst : TypeId} {x : Operand} (ho : o.op = .convert src dst x) : OpS P G N o (convOp P G N src dst x (dstO N o.dst)) := by
  unfold convOp
  split
  · rename_i h1 h2
    split
    · rename_i h; subst h; exact un_ok fun g hx => convF_ok hx ho (toW_fun h1 h2)
    · rename_i n1
      split
      · rename_i h; subst h; exact un_ok fun g hx => convF_ok hx ho (toY_fun h1 h2)
      · rename_i n2; exact un_ok fun g hx => convF_ok hx ho (toI_fun n1 n2 h1 h2)
  · rename_i h1 h2; exact un_ok fun g hx => convS_ok hx ho h1 h2
  · rename_i h1 h2
    split
    · rename_i h3; exact un_ok fun g hx => s2b_ok hx ho h1 h2 h3
    · exact noO_ok
  · rename_i h1 h2
    split
    · rename_i h3; exact un_ok fun g hx => b2s_ok hx ho h1 h2 h3
    · exact noO_ok
  · exact noO_ok

theorem lenO_ok {o : Oper} {ts : Array TypeId} {x : Operand} {g : E → V} {xs : Array Operand} {f : V → (V → Bool) → Bool} (hx : opr P G N x = some g) (ho : o.op = .call ⟨.builtin .len, xs, ts⟩) (hxs : xs.toList = [x]) (hf : Fun1 P f (fun v => Builtin.len_ ts o.type #[v])) : OpS P G N o (unO f (dstO N o.dst) g) := by
  obtain ⟨dst', op', ty, pos, aft, grd⟩ := o
  simp only at ho; subst ho
  obtain rfl := args_one hxs
  refine un_fun_ok hx hf fun ρ => ?_
  simp [execOp, resolve]
  rfl

theorem builtinOp_ok {o : Oper} {b : Builtin} {ts : Array TypeId} {xs : Array Operand} (ho : o.op = .call ⟨.builtin b, xs, ts⟩) : OpS P G N o (builtinOp P G N b ts xs.toList (dstO N o.dst)) := by
  unfold builtinOp
  split
  · rename_i hxs hts
    split
    · rename_i ht; exact un_ok fun g hx => lenO_ok hx ho hxs (lenS_fun hts ht)
    · rename_i ht; exact un_ok fun g hx => lenO_ok hx ho hxs (lenL_fun hts ht)
    · exact noO_ok
  · rename_i hxs hts
    split
    · rename_i ht htu
      split
      · exact noO_ok
      · rename_i hu hi
        split
        · rename_i hby
          split
          · rename_i hz
            split
            · rename_i hzs
              exact bi_ok fun g g' hx hy => app_ok hx hy ho hxs hts htu ht hu (.inl rfl) hi hz hzs hby
            · exact noO_ok
          · exact noO_ok
        · exact noO_ok
      · rename_i hu hi
        split
        · rename_i hby
          split
          · rename_i hz
            split
            · rename_i hzs
              exact bi_ok fun g g' hx hy => app_ok hx hy ho hxs hts htu ht hu (.inr ⟨_, rfl⟩) hi hz hzs hby
            · exact noO_ok
          · exact noO_ok
        · exact noO_ok
      · exact noO_ok
    · exact noO_ok
  · rename_i hxs; exact bi_ok fun g g' hx hy => mm_ok hx hy ho hxs max_fun (.inl ⟨rfl, rfl⟩)
  · rename_i hxs; exact bi_ok fun g g' hx hy => mm_ok hx hy ho hxs min_fun (.inr ⟨rfl, rfl⟩)
  · exact noO_ok

theorem unop_ok {o : Oper} {op : UnOp} {t : TypeId} {x : Operand} {g : E → V} {f : V → (V → Bool) → Bool} (hx : opr P G N x = some g) (ho : o.op = .unOp op t x) (hf : Fun1 P f (fun v => Op.unary op v)) : OpS P G N o (unO f (dstO N o.dst) g) := by
  obtain ⟨dst', op', ty, pos, aft, grd⟩ := o
  simp only at ho; subst ho
  exact un_fun_ok hx hf fun ρ => rfl

theorem idx_ok {o : Oper} {t : TypeId} {x y : Operand} {g g' : E → V} {f : V → V → (V → Bool) → Bool} (hx : opr P G N x = some g) (hy : opr P G N y = some g') (ho : o.op = .indexAddr t x y) (hf : Fun2 P f (fun a b => Instr.indexAt t a b)) : OpS P G N o (binO f (dstO N o.dst) g g') := by
  obtain ⟨dst', op', ty, pos, aft, grd⟩ := o
  simp only at ho; subst ho
  exact bi_fun_ok hx hy hf fun a w c h => run_value (Instr.indexAt t (a.eval x) (a.eval y)) _ _ _ h

theorem sidx_ok {o : Oper} {t : TypeId} {x y : Operand} {g g' : E → V} (hx : opr P G N x = some g) (hy : opr P G N y = some g') (ho : o.op = .index t x y) (ht : P.underlying t = some .string) : OpS P G N o (binO sidxV (dstO N o.dst) g g') := by
  obtain ⟨dst', op', ty, pos, aft, grd⟩ := o
  simp only at ho; subst ho
  exact bi_fun_ok hx hy (sidx_fun P t ht) fun a w c h => run_value (Instr.index t (a.eval x) (a.eval y)) _ _ _ h

theorem extr_ok {o : Oper} {x : Operand} {i : Nat} {g : E → V} (hx : opr P G N x = some g) (ho : o.op = .extract x i) : OpS P G N o (extO (dstO N o.dst) g i) := by
  obtain ⟨dst', op', ty, pos, aft, grd⟩ := o
  simp only at ho; subst ho
  exact un_fun_ok hx (ext_fun i) fun ρ => rfl

theorem under_of_hasT {t : TypeId} (h : hasT P t = true) : ∃ i, P.info? t = some i := let ⟨_, hd⟩ := hasT_under h; under_info hd

theorem vop_ok {cf : CallF} (hcf : CallS P G cf) (o : Oper) : OpS P G N o (vop P G cf N o) := by
  unfold vop
  simp only
  split
  · rename_i ho; exact un_ok fun g hx => mov_ok hx (.inl ho)
  · rename_i ho; exact un_ok fun g hx => mov_ok hx (.inr ho)
  · rename_i ho
    split
    · rename_i hc; exact bi_ok fun g g' hx hy => pick_ok hc hx hy ho
    · exact noO_ok
  · rename_i ho
    split
    · exact un_ok fun g hx => box_ok hx ho
    · exact noO_ok
  · rename_i ho
    split
    · split
      · rename_i hi
        split
        · rename_i hz
          split
          · rename_i hv; exact alloc_ok hi hz hv ho
          · exact noO_ok
        · exact noO_ok
      · exact noO_ok
    · exact noO_ok
  · rename_i ho
    split
    · rename_i ht
      split
      · rename_i h1; exact un_ok fun g hx => by have := ld_ok hx ho ht; rw [if_pos h1] at this; exact this
      · rename_i h1; exact un_ok fun g hx => by have := ld_ok hx ho ht; rw [if_neg h1] at this; exact this
    · exact noO_ok
  · rename_i ho
    split
    · rename_i ht
      split
      · rename_i hd; exact bi_ok fun g g' hx hy => st_ok hx hy ho hd ht
      · exact noO_ok
    · exact noO_ok
  · rename_i ho; exact un_ok fun g hx => nilck_ok hx ho
  · rename_i ho; exact binOp_ok ho
  · rename_i ho
    split
    · exact un_ok fun g hx => unop_ok hx ho (not_fun P)
    · exact un_ok fun g hx => unop_ok hx ho (neg_fun P)
    · exact noO_ok
  · rename_i ho; exact convOp_ok ho
  · rename_i ho
    split
    · rename_i ht
      split
      · rename_i he
        obtain ⟨i, hi⟩ := under_of_hasT he
        exact bnd_ok fun l hl => bnd_ok fun u hu => un_ok fun g hx => sarr_ok hx ho ht hi hl hu
      · exact noO_ok
    · rename_i ht
      exact bnd_ok fun l hl => bnd_ok fun u hu => un_ok fun g hx => sstr_ok hx ho ht hl hu
    · rename_i ht
      split
      · rename_i he
        obtain ⟨i, hi⟩ := under_of_hasT he
        exact bnd_ok fun l hl => bnd_ok fun u hu => un_ok fun g hx => ssli_ok hx ho ht hi hl hu
      · exact noO_ok
    · exact noO_ok
  · rename_i ho
    split
    · rename_i hs
      split
      · rename_i hf
        split
        · exact noO_ok
        · rename_i hq; exact un_ok fun g hx => fad_ok hx ho hs hf hq
      · exact noO_ok
    · exact noO_ok
  · rename_i ho
    split
    · rename_i ht
      split
      · rename_i he
        obtain ⟨i, hi⟩ := under_of_hasT he
        exact bi_ok fun g g' hx hy => idx_ok hx hy ho (iad_fun ht hi)
      · exact noO_ok
    · rename_i ht
      split
      · rename_i he
        obtain ⟨i, hi⟩ := under_of_hasT he
        exact bi_ok fun g g' hx hy => idx_ok hx hy ho (iaa_fun ht hi)
      · exact noO_ok
    · exact noO_ok
  · rename_i ho
    split
    · rename_i ht; exact bi_ok fun g g' hx hy => sidx_ok hx hy ho ht
    · exact noO_ok
  · rename_i ho
    split
    · rename_i ht
      split
      · rename_i hf
        split
        · rename_i hq; exact un_ok fun g hx => fieldO_ok hx ho (field_fun ht hf hq)
        · exact noO_ok
      · exact noO_ok
    · exact noO_ok
  · rename_i ho
    split
    · rename_i ht hi
      split
      · rename_i hz
        split
        · rename_i hall
          split
          · rename_i hv hq
            exact build_ok ho ht hi hz hv hq fun f hf => under_of_hasT (List.all_eq_true.1 hall f hf)
          · exact noO_ok
        · exact noO_ok
      · exact noO_ok
    · exact noO_ok
  · rename_i ho
    split
    · rename_i ht
      split
      · rename_i hi
        split
        · rename_i hz
          split
          · rename_i hc
            obtain ⟨c1, c2, c3, c4⟩ := hc
            split
            · rename_i hv hq
              exact bsl_ok ho ht hi hz hv hq c2 c3 (by omega)
            · exact noO_ok
          · exact noO_ok
        · exact noO_ok
      · exact noO_ok
    · exact noO_ok
  · rename_i ho
    split
    · rename_i hl hm; exact mkf_ok ho hl hm
    · exact noO_ok
  · rename_i ho
    split
    · exact noO_ok
    · rename_i hn ht; exact un_ok fun g hx => mki_ok hx ho ht fun m e => hn m e
    · exact noO_ok
  · rename_i ho; exact un_ok fun g hx => extr_ok hx ho
  · rename_i c ho
    obtain ⟨callee, xs, ts⟩ := c
    simp only
    split
    · split
      · rename_i hl; exact call_ok hcf hl ho
      · exact noO_ok
    · split
      · rename_i hl; exact un_ok fun g hx => callv_ok hcf hx hl ho
      · exact noO_ok
    · exact builtinOp_ok ho
    · exact noO_ok
  · exact noO_ok

end Go.Avm
